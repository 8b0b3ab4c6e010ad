/-
  Appending to a box.
-/
import Derived.Test.YtkajnimlfehmeaaUB2
set_option linter.unusedSimpArgs false
set_option linter.unusedVariables false
namespace Go.Vl
open Go.RowKit

/-- A box more. -/
theorem Rel'.addBox {C : Ctx} {st : St} {a : Act} {w0 w : World} {ρ : Rho} {im0 im : Im} (h0 : Rel' C st a w0 ρ im0) (hs : Step ρ im0 w0 ρ im w) (h : Rel' C st a w ρ im) {b : Nat} (hbL : b < LENT) (hb : st.box b = none) (B : Box) (x : Option Nat)
    (hx : ∀ g, x = some g → Own ρ g ∨ w0.heap.size ≤ g)
    (hB : BoxAt C.own w im ρ B x) (hn : ∀ b' g B', x = some g → ρ b' = some (some g) → st.box b' = some B' → B'.live = false) :
    Rel' C (st.setBox b B) a w (upd ρ b (some x)) im ∧ (∀ b' x', ρ b' = some x' → upd ρ b (some x) b' = some x') := by
  have hρb : ρ b = none := (h.rho b).2 hb
  have hρ : ∀ b' x', ρ b' = some x' → upd ρ b (some x) b' = some x' := by
    intro b' x' hx
    rw [upd_other]
    · exact hx
    · rintro rfl; rw [hρb] at hx; cases hx
  refine ⟨⟨h0.step ⟨hs.lent, hs.keep, ?_, hs.mono, hs.imn⟩ ?_, h.nt, h.dfr, h.imc, ?_, ?_, ?_, ?_⟩, hρ⟩
  · rintro g ⟨b', hb'⟩
    by_cases e : b' = b
    · subst e; simp only [upd_same, Option.some.injEq] at hb'; exact hx g hb'
    · rw [upd_other _ _ _ _ e] at hb'; exact .inl ⟨b', hb'⟩
  · intro b' x1 x' hL hx1 hx'
    rw [upd_other _ _ _ _ (by omega)] at hx'
    exact h.root.rho0 b' x1 x' hL hx1 hx'
  · exact fun t v hv => (h.var t v hv).mono (Keeps.refl _ _) (fun _ _ x => x) hρ
  · intro b'
    by_cases e : b' = b
    · subst e; simp [upd_same, St.setBox]
    · simp [upd_other _ _ _ _ e, St.setBox, h.rho b']
  · intro b' x' B' hx hB'
    by_cases e : b' = b
    · subst e
      simp only [upd_same, Option.some.injEq] at hx
      simp only [St.setBox, upd_same, Option.some.injEq] at hB'
      subst hx; subst hB'
      exact hB.mono (Keeps.refl _ _) (fun _ _ x => x) (fun _ _ _ _ x => x) hρ (fun _ _ _ => rfl)
    · simp only [upd_other _ _ _ _ e] at hx
      simp only [St.setBox, upd_other _ _ _ _ e] at hB'
      exact (h.box b' x' B' hx hB').mono (Keeps.refl _ _) (fun _ _ x => x) (fun _ _ _ _ x => x) hρ (fun _ _ _ => rfl)
  · intro b1 b2 g B1 B2 g1 g2 e1 e2 l1 l2
    simp only [upd] at g1 g2
    simp only [St.setBox, upd] at e1 e2
    by_cases x1 : b1 = b <;> by_cases x2 : b2 = b
    · rw [x1, x2]
    · simp [x1] at g1
      simp [x2] at g2 e2
      rw [hn b2 g B2 g1 g2 e2] at l2; cases l2
    · simp [x1] at g1 e1
      simp [x2] at g2
      rw [hn b1 g B1 g2 g1 e1] at l1; cases l1
    · simp [x1] at g1 e1
      simp [x2] at g2 e2
      exact h.inj b1 b2 g B1 B2 g1 g2 e1 e2 l1 l2

/-- The cells of a list of elements, handed as a slice. -/
theorem Rep.slc_cells {w : World} {im : Im} {xs : List PV} {u : Value} (h : Rep w im (.slc xs) u) :
    (xs = [] ∧ ∃ c, u = .slice none 0 c) ∨ ∃ (A : Addr) (cap : Nat) (vs : List Value) (sz : Nat), u = .slice (some A) xs.length cap ∧ xs.length ≤ maxLen ∧ (∀ e ∈ xs, e.cells.length = sz) ∧
      (∀ j v, vs[j]? = some v → w.cell? (A.add j) = some v) ∧ RepL w im (xs.flatMap PV.cells) vs ∧ xs.length ≤ cap := by
  cases h with
  | slcNil c hm => exact .inl ⟨rfl, c, rfl⟩
  | slcE p cap hm => exact .inr ⟨p, cap, [], 0, rfl, Nat.zero_le _, by simp, by simp, .nil, Nat.zero_le _⟩
  | slc _ g off len cap sz vs hn hm hz hi hc hr hcap =>
    subst hn
    refine .inr ⟨⟨g, off, none⟩, cap, vs, sz, rfl, Nat.le_trans hcap hm, hz, ?_, hr, hcap⟩
    intro j v hv
    have hj : j < vs.length := (List.getElem?_eq_some_iff.1 hv).1
    have : (⟨g, off, none⟩ : Addr).add j = ⟨g, off + j, none⟩ := by unfold Addr.add; split <;> simp_all
    rw [this, hc j hj, hv]

theorem Rep.okFlat {w : World} {im : Im} {vs : List PV} {us : List Value} (h : RepL w im vs us) (ho : vs.all PV.okCell = true) : ∀ u ∈ us, u.oneCell' = true :=
  (h.toLRL (ρ := fun _ => none)).oneCells ho

theorem LR.bs_inv {w : World} {im : Im} {ρ : Rho} {b esz off len : Nat} {u : Value} (h : LR w im ρ (.bs b esz off len) u) :
    (ρ b = some none ∧ (∃ x : Option (Nat × Nat), u = .slice (x.map fun p => ⟨p.1, p.2, none⟩) 0 0) ∧ off = 0 ∧ len = 0) ∨ ∃ g cap cur e, ρ b = some (some g) ∧ u = .slice (some ⟨g, off * esz, none⟩) len cap ∧
      w.heap[g]? = some (Obj.cells cur e (0, 0)) ∧ off * esz + cap * esz ≤ cur.size ∧ len ≤ cap ∧ cap ≤ maxLen := by
  cases h with
  | ext _ _ hh => cases hh
  | bsNil _ _ x e => exact .inl ⟨e, ⟨x, rfl⟩, rfl, rfl⟩
  | bs _ _ _ _ g o cap cur e hh ho ho2 hc hl hm => subst ho2; exact .inr ⟨g, cap, cur, e, hh, rfl, ho, hc, hl, hm⟩

theorem BoxAt.of_new {own : Nat → Prop} {w : World} {im : Im} {ρ : Rho} {B : Box} {g : Nat} {us rest : List Value} (hb : own g) (hg : w.heap[g]? = some (Obj.cells (us ++ rest).toArray B.ety (0, 0)))
    (hf : B.fro ≤ B.els.length) (hz : 0 < B.esz) (he : ∀ e ∈ B.els, e.cells.length = B.esz) (hr : RepL w im (B.els.flatMap PV.cells) us) (ho : ∀ u ∈ us, u.oneCell' = true)
    (hi : ∀ j, j < B.fro * B.esz → im g j) (hl : B.live = true) (hni : ∀ j, B.fro * B.esz ≤ j → ¬ im g j) : BoxAt own w im ρ B (some g) :=
  ⟨hb, hf, hz, he, (us ++ rest).toArray, us, rest, hg, by simp, hr.toLRL, fun _ => hr, ho, fun j _ hh => hi j (hh.elim id fun x => by rw [hl] at x; cases x), fun _ => hni⟩

section
variable {P : Program}

theorem run_append_x_nil (w : World) (t t2 ty e : TypeId) (i : TypeInfo) (ht : P.underlying t = some (.slice e)) (hi : P.info? e = some i) (e2 : TypeId) (ht2 : P.underlying t2 = some (.slice e2))
    (b : Option Addr) (n c : Nat) (hn : n ≤ c) (cx : Nat) : (Builtin.append_ #[t, t2] ty #[.slice b n c, .slice none 0 cx]).run P w = .ok (.slice b n c) w := by
  cases b <;> simp [Builtin.append_, run_underlying ht, run_underlying ht2, sizeOf, typeInfo, hi, Builtin.lenOf, hn, Builtin.firstCells, storeCells]

theorem run_append_none (w : World) (t ty e : TypeId) (i : TypeInfo) (ht : P.underlying t = some (.slice e)) (hi : P.info? e = some i) (x : Option Addr) (a : Addr) (c : Nat) :
    (Builtin.append_ #[t, t] ty #[.slice x 0 0, .slice (some a) 0 c]).run P w = .ok (.slice x 0 0) w := by
  cases x <;> simp [Builtin.append_, run_underlying ht, sizeOf, typeInfo, hi, Builtin.lenOf, Builtin.firstCells, loadCells, loadCellsFrom, storeCells]

end

/-- The old box is held, and the longer one lies in a new block. -/
theorem Rel'.append_new {C : Ctx} {st : St} {a : Act} {w : World} {ρ : Rho} {im : Im} (h : Rel' C st a w ρ im) {id : Nat} {els : List PV} {esz E : Nat} {us rest : List Value}
    (hidL : id < LENT) (hid : st.box id = none) (hz : 0 < esz) (he : ∀ e ∈ els, e.cells.length = esz) (hr : RepL w im (els.flatMap PV.cells) us) (ho : (els.flatMap PV.cells).all PV.okCell = true)
    (n cap : Nat) (hn : n ≤ els.length) (hlen : els.length ≤ cap) (hcap : cap * esz ≤ us.length + rest.length) (hm : cap ≤ maxLen) :
    ∃ ρ' im', Rel' C (st.setBox id { els := els, esz := esz, ety := E, fro := n, live := true, arr := true }) a (w.drew.alloc (.cells (us ++ rest).toArray E)) ρ' im' ∧
      LR (w.drew.alloc (.cells (us ++ rest).toArray E)) im' ρ' (.bs id esz 0 els.length) (.slice (some ⟨w.heap.size, 0, none⟩) els.length cap) := by
  have hbl : Below w.heap.size w (w.drew.alloc (.cells (us ++ rest).toArray E)) := ((Below.refl _ _).drew).alloc (Nat.le_refl _) _
  have hg : (w.drew.alloc (.cells (us ++ rest).toArray E)).heap[w.heap.size]? = some (Obj.cells (us ++ rest).toArray E (0, 0)) := heap_alloc_new w.drew _
  generalize hw' : w.drew.alloc (.cells (us ++ rest).toArray E) = w' at *
  have h' := h.below_call hbl
  have hk : Keeps im w w' := Keeps.of_below hbl h.imc
  have hni : ∀ j, ¬ im w.heap.size j := fun j hj => by
    obtain ⟨u, hu⟩ := h.imc _ _ hj
    have := World.block_lt_of_cell? w _ hu
    simp at this
  have hul : us.length = els.length * esz := by rw [← hr.length, flat_length he]
  have hnb : n * esz ≤ els.length * esz := Nat.mul_le_mul_right _ hn
  have h2 : Rel' C st a w' ρ (fun g j => im g j ∨ (g = w.heap.size ∧ j < n * esz)) := by
    refine h.grow (.of_below hbl) hk h' (fun _ _ x => .inl x) ?_
    rintro g j (x | ⟨rfl, x⟩)
    · exact .inl x
    · refine .inr ⟨Nat.le_refl _, ⟨us[j]'(by omega), ?_⟩, fun b hb => ?_⟩
      · rw [cell_of_row _ _ _ _ _ _ hg, List.getElem?_toArray, List.getElem?_append_left (by omega)]; simp
      · have := (h.block_lt hb).1; omega
  have hB : BoxAt C.own w' (fun g j => im g j ∨ (g = w.heap.size ∧ j < n * esz)) ρ { els := els, esz := esz, ety := E, fro := n, live := true, arr := true } (some w.heap.size) :=
    BoxAt.of_new (us := us) (rest := rest) (.inl h.root.below.size) hg hn hz he (hr.mono hk.cell fun _ _ x => .inl x) (Rep.okFlat hr ho) (fun j hj => .inr ⟨rfl, hj⟩) rfl
      (fun j hj x => x.elim (hni j) fun y => by have := y.2; simp at hj; omega)
  obtain ⟨h3, h4⟩ := h.addBox ⟨.of_below hbl, hk, fun _ x => .inl x, fun _ _ x => .inl x, fun g j x => x.elim .inl fun y => .inr (.inr (Nat.le_of_eq y.1.symm))⟩ h2 hidL hid _ _ (fun g e => .inr (by cases e; exact Nat.le_refl _)) hB (fun b' g B' e1 e2 _ => by cases e1; have := (h.block_lt e2).1; omega)
  refine ⟨_, _, h3, ?_⟩
  exact .bs id esz 0 els.length w.heap.size 0 cap _ E (upd_same _ _ _) hg (by simp) (by simp; omega) hlen hm

theorem append_flat {as bs : List PV} : (as ++ bs).flatMap PV.cells = as.flatMap PV.cells ++ bs.flatMap PV.cells := by simp

theorem Rel'.append {C : Ctx} {st : St} {a : Act} {w : World} {ρ : Rho} {im : Im} (h : Rel' C st a w ρ im) {b id : Nat} {B : Box} {T ty : TypeId} {i : TypeInfo} {z : Value} {xs : List PV} {u x : Value}
    (ht : C.P.underlying T = some (.slice B.ety)) (hi : C.P.info? B.ety = some i) (hz : i.zero = some z) (hsz : i.size = B.esz) (hzs : z.cells.size = i.size)
    (hB : st.box b = some B) (hl : B.live = true) (ha : B.arr = true) (hu : LR w im ρ (.bs b B.esz 0 B.els.length) u) (hx : Rep w im (.slc xs) x)
    (hxz : ∀ e ∈ xs, e.cells.length = B.esz) (hok : (B.els.flatMap PV.cells).all PV.okCell = true) (hokx : (xs.flatMap PV.cells).all PV.okCell = true)
    (hidL : id < LENT) (hid : st.box id = none) (hby : (B.els.length + xs.length) * i.bytes ≤ 140737488355328) (h63 : B.els.length + xs.length ≤ maxLen) :
    ∃ v' w' ρ' im', (Builtin.append_ #[T, T] ty #[u, x]).run C.P w = .ok v' w' ∧
      Rel' C ((st.setBox b { B with fro := max B.fro B.els.length, live := B.live && false }).setBox id { els := B.els ++ xs, esz := B.esz, ety := B.ety, fro := B.els.length, live := true, arr := true }) a w' ρ' im' ∧
      LR w' im' ρ' (.bs id B.esz 0 (B.els.length + xs.length)) v' := by
  have hsmall : ((B.els.length + xs.length : Nat) : Int) ≤ 9223372036854775807 := by simp only [maxLen] at h63; omega
  have hbid : id ≠ b := by rintro rfl; rw [hB] at hid; cases hid
  cases hr0 : ρ b with
  | none => rw [(h.rho b).1 hr0] at hB; cases hB
  | some loc =>
  have hbox := h.box b loc B hr0 hB
  have h1 := h.hold hr0 hB (Nat.le_refl _) false (.inr (Nat.le_refl _))
  generalize hst1 : st.setBox b { B with fro := max B.fro B.els.length, live := B.live && false } = st1 at *
  have hid1 : st1.box id = none := by rw [← hst1]; simp [St.setBox, upd_other _ _ _ _ hbid, hid]
  have hdead : ∀ b' g B', loc = some g → ρ b' = some (some g) → st1.box b' = some B' → B'.live = false := by
    intro b' g B' e1 e2 e3
    by_cases y : b' = b
    · subst y
      rw [← hst1] at e3
      simp only [St.setBox, upd_same, Option.some.injEq] at e3
      rw [← e3]; simp
    · rw [← hst1] at e3
      simp only [St.setBox, upd_other _ _ _ _ y] at e3
      cases hBl : B'.live with
      | false => rfl
      | true => exact absurd (h.inj b' b g B' B e2 (by rw [hr0, e1]) e3 hB hBl hl) y
  have hlenapp : (B.els ++ xs).length = B.els.length + xs.length := by simp
  have heall : 0 < B.esz ∧ (∀ e ∈ B.els, e.cells.length = B.esz) := by
    cases loc with
    | none => obtain ⟨z1, _, _, z4⟩ := hbox; exact ⟨z4, by rw [z1]; simp⟩
    | some g => obtain ⟨_, _, h3, h4, _⟩ := hbox; exact ⟨h3, h4⟩
  have heapp : ∀ e ∈ B.els ++ xs, e.cells.length = B.esz := by
    intro e he
    rcases List.mem_append.1 he with y | y
    · exact heall.2 e y
    · exact hxz e y
  have hokapp : ((B.els ++ xs).flatMap PV.cells).all PV.okCell = true := by rw [append_flat, List.all_append, hok, hokx]; rfl
  have himp : ∀ g j, im g j → holdIm im loc (B.els.length * B.esz) g j := fun _ _ y => .inl y
  -- nothing is appended, or there is nothing to append
  have same : ∀ v, xs = [] → u = v → LR w (holdIm im loc (B.els.length * B.esz)) ρ (.bs b B.esz 0 B.els.length) u →
      ∃ ρ' im', Rel' C (st1.setBox id { els := B.els ++ xs, esz := B.esz, ety := B.ety, fro := B.els.length, live := true, arr := true }) a w ρ' im' ∧ LR w im' ρ' (.bs id B.esz 0 (B.els.length + xs.length)) v := by
    rintro v rfl rfl hu'
    have hBA : BoxAt C.own w (holdIm im loc (B.els.length * B.esz)) ρ { els := B.els ++ [], esz := B.esz, ety := B.ety, fro := B.els.length, live := true, arr := true } loc := by
      cases loc with
      | none => obtain ⟨z1, _, _, z4⟩ := hbox; exact ⟨by simp [z1], rfl, by simp [z1], z4⟩
      | some g =>
        obtain ⟨h1, h2, h3, h4, cur, us, rest, h5, h6, h7, h8, h9, h10, h11⟩ := hbox
        refine ⟨h1, by simp, h3, by simpa using h4, cur, us, rest, h5, h6, ?_, ?_, h9, ?_, ?_⟩
        · simpa using h7.mono (Keeps.refl _ _) himp (fun _ _ x => x)
        · intro _; simpa using (h8 ha).mono (fun _ _ _ => rfl) himp
        · intro j _ hh
          simp at hh
          exact .inr ⟨rfl, hh⟩
        · intro _ j hj y
          have h2' : B.fro * B.esz ≤ B.els.length * B.esz := Nat.mul_le_mul_right _ h2
          rcases y with y | ⟨_, y⟩
          · exact h11 hl j (by simp at hj; omega) y
          · simp at hj; omega
    obtain ⟨h3, h4⟩ := h1.addBox ⟨.refl _ _ _, Keeps.refl _ _, fun _ x => .inl x, fun _ _ x => x, fun _ _ x => .inl x⟩ h1 hidL hid1 _ _ (fun g e => .inl ⟨b, by rw [hr0, e]⟩) hBA hdead
    refine ⟨_, _, h3, ?_⟩
    simp only [List.length_nil, Nat.add_zero]
    rcases hu'.bs_inv with ⟨e, ⟨x0, rfl⟩, _, e0⟩ | ⟨g, cap, cur, e, hh, rfl, ho, hc, hl', hm⟩
    · rw [hr0] at e; cases e
      rw [e0]
      exact .bsNil _ _ _ (upd_same _ _ _)
    · rw [hr0] at hh; cases hh
      exact .bs _ _ _ _ g _ cap cur e (upd_same _ _ _) ho rfl hc hl' hm
  have hu1 : LR w (holdIm im loc (B.els.length * B.esz)) ρ (.bs b B.esz 0 B.els.length) u := hu.mono (Keeps.refl _ _) himp (fun _ _ x => x)
  rcases hx.slc_cells with ⟨rfl, cx, rfl⟩ | ⟨Ax, capx, vsx, szx, rfl, hmx, hzx, hcx, hrx, hcapx⟩
  · -- a nil slice is appended
    have hrun : (Builtin.append_ #[T, T] ty #[u, .slice none 0 cx]).run C.P w = .ok u w := by
      rcases hu.bs_inv with ⟨e, ⟨x0, rfl⟩, _, e0⟩ | ⟨g, cap, cur, e, hh, rfl, ho, hc, hl', hm⟩
      · exact run_append_x_nil w T T ty B.ety i ht hi B.ety ht _ 0 0 (Nat.le_refl _) cx
      · exact run_append_x_nil w T T ty B.ety i ht hi B.ety ht _ _ _ hl' cx
    obtain ⟨ρ', im', e1, e2⟩ := same u rfl rfl hu1
    exact ⟨u, w, ρ', im', hrun, e1, e2⟩
  · have hvl : vsx.length = xs.length * B.esz := by rw [← hrx.length, flat_length hxz]
    have hox : ∀ v ∈ vsx, v.oneCell' = true := Rep.okFlat hrx hokx
    cases loc with
    | none =>
      obtain ⟨z1, _, z3, z4⟩ := hbox
      obtain ⟨x0, hu0⟩ : ∃ x0 : Option Addr, u = .slice x0 0 0 := by
        rcases hu.bs_inv with ⟨e, ⟨x0, rfl⟩, _, e0⟩ | ⟨g, cap, cur, e, hh, rfl, ho, hc, hl', hm⟩
        · exact ⟨_, rfl⟩
        · rw [hr0] at hh; cases hh
      by_cases hm0 : xs.length = 0
      · have hxs : xs = [] := List.length_eq_zero_iff.1 hm0
        obtain ⟨ρ', im', e1, e2⟩ := same u hxs rfl hu1
        refine ⟨u, w, ρ', im', ?_, e1, e2⟩
        rw [hu0, hm0]
        exact run_append_none w T ty B.ety i ht hi _ _ _
      · have zl : B.els.length = 0 := by rw [z1]; rfl
        have hrun : (Builtin.append_ #[T, T] ty #[.slice x0 0 0, .slice (some Ax) xs.length capx]).run C.P w =
            .ok (.slice (some ⟨w.heap.size, 0, none⟩) xs.length (grownCap w xs.length 0 B.ety)) (w.drew.alloc (.cells (vsx.toArray ++ Builtin.zeroCells z.cells (grownCap w xs.length 0 B.ety - xs.length)) B.ety)) := by
          cases x0 with
          | none => exact run_append_nil w T ty B.ety i z ht hi hz Ax xs.length capx vsx (by rw [hsz]; exact hvl) hcx (by omega) (by omega) (by rw [zl, Nat.zero_add] at hby; omega)
          | some a0 =>
            have := run_append_grow (P := C.P) w T ty B.ety i z ht hi hz a0 0 0 [] (by simp) (by simp) Ax xs.length capx vsx (by rw [hsz]; exact hvl) hcx
              (by omega) (by omega) (growslice_fits (by omega) (by rw [zl] at hby; exact hby))
            simpa using this
        have hcapg := grownCap_ge w xs.length 0 B.ety
        have hcapm := grownCap_le_maxLen w xs.length 0 B.ety hmx
        have hzc : (Builtin.zeroCells z.cells (grownCap w xs.length 0 B.ety - xs.length)).size = (grownCap w xs.length 0 B.ety - xs.length) * B.esz := by rw [size_zeroCells, hzs, hsz]
        generalize grownCap w xs.length 0 B.ety = cap at *
        generalize Builtin.zeroCells z.cells (cap - xs.length) = zc at *
        have harr : vsx.toArray ++ zc = (vsx ++ zc.toList).toArray := by apply Array.ext'; simp
        rw [harr] at hrun
        have hmul : cap * B.esz = xs.length * B.esz + (cap - xs.length) * B.esz := by rw [← Nat.add_mul]; congr 1; omega
        obtain ⟨ρ', im', e1, e2⟩ := h1.append_new (els := B.els ++ xs) (E := B.ety) (us := vsx) (rest := zc.toList) hidL hid1 z4 heapp (by have := hrx.mono (fun _ _ _ => rfl) himp; rw [append_flat, z1]; simpa [z1] using this) hokapp B.els.length cap
          (by simp) (by rw [z1]; simpa using hcapg) (by simp; omega) hcapm
        rw [hlenapp] at e2
        have z0 : B.els.length = 0 := by rw [z1]; rfl
        have e2' := e2
        simp only [z0, Nat.zero_add] at e2' ⊢
        refine ⟨_, _, ρ', im', ?_, by simpa [z0] using e1, e2'⟩
        rw [hu0]; exact hrun
    | some g =>
      obtain ⟨b1, b2, b3, b4, cur, us, rest, b5, b6, b7, b8, b9, b10, b11⟩ := hbox
      obtain ⟨cap, hu0, hcap1, hcap2, hcap3⟩ : ∃ cap, u = .slice (some ⟨g, 0, none⟩) B.els.length cap ∧ cap * B.esz ≤ cur.size ∧ B.els.length ≤ cap ∧ cap ≤ maxLen := by
        rcases hu.bs_inv with ⟨hh, _⟩ | ⟨g', cap, cur', e, hh, e1, ho, hc, hl', hm⟩
        · rw [hr0] at hh; cases hh
        · rw [hr0] at hh; cases hh
          rw [b5] at ho; cases ho
          rw [Nat.zero_mul] at e1
          exact ⟨cap, e1, by simpa using hc, hl', hm⟩
      subst hu0
      have hul : us.length = B.els.length * B.esz := by rw [← b7.length, flat_length b4]
      have hcs : cur.size = us.length + rest.length := by rw [← Array.length_toList, b6]; simp
      have hrepB : RepL w im (B.els.flatMap PV.cells) us := b8 ha
      have happ : RepL w (holdIm im (some g) (B.els.length * B.esz)) ((B.els ++ xs).flatMap PV.cells) (us ++ vsx) := by
        rw [append_flat]; exact (hrepB.append hrx).mono (fun _ _ _ => rfl) himp
      by_cases hroom : B.els.length + xs.length ≤ cap
      · have hmulr : (B.els.length + xs.length) * B.esz ≤ cap * B.esz := Nat.mul_le_mul_right _ hroom
        have hsum : (B.els.length + xs.length) * B.esz = B.els.length * B.esz + xs.length * B.esz := Nat.add_mul _ _ _
        have hrun := run_append_room (P := C.P) w T ty B.ety i ht hi g B.els.length cap cur b5 Ax xs.length capx vsx (by rw [hsz]; exact hvl) hcx hox hroom (by rw [hsz]; omega)
        rw [hsz] at hrun
        have hcur' : (cur.toList.take (B.els.length * B.esz) ++ vsx ++ cur.toList.drop (B.els.length * B.esz + vsx.length)) = (us ++ vsx) ++ cur.toList.drop (B.els.length * B.esz + vsx.length) := by
          congr 2
          rw [b6, ← hul]; simp
        rw [hcur'] at hrun
        have hsz' : ((us ++ vsx) ++ cur.toList.drop (B.els.length * B.esz + vsx.length)).toArray.size = cur.size := by simp; omega
        have hk : Keeps (holdIm im (some g) (B.els.length * B.esz)) w (w.setRow g ((us ++ vsx) ++ cur.toList.drop (B.els.length * B.esz + vsx.length)).toArray) := by
          refine Keeps.setRow b5 hsz' ?_
          intro j hj
          have hj' : j < B.els.length * B.esz := by
            rcases hj with hj | ⟨_, hj⟩
            · rcases Nat.lt_or_ge j (B.fro * B.esz) with y | y
              · have : B.fro * B.esz ≤ B.els.length * B.esz := Nat.mul_le_mul_right _ b2
                omega
              · exact absurd hj (b11 hl j y)
            · exact hj
          rw [← hcur', List.getElem?_toArray, splice_get _ _ _ _ (by simp; omega) (.inl hj'), Array.getElem?_toList]
        have hg' := setRow_heap w g cur ((us ++ vsx) ++ cur.toList.drop (B.els.length * B.esz + vsx.length)).toArray B.ety _ b5
        have hlr := Lent.setRow (w := w) (X := Own ρ) ⟨b, hr0⟩ w.heap.size ((us ++ vsx) ++ cur.toList.drop (B.els.length * B.esz + vsx.length)).toArray
        have h2 := h1.world (w' := w.setRow g ((us ++ vsx) ++ cur.toList.drop (B.els.length * B.esz + vsx.length)).toArray) hlr hk (by
          intro b' g' B' e1 e2 e3
          by_cases y : g' = g
          · subst y; rw [hdead b' g' B' rfl e1 e2] at e3; cases e3
          · exact setRow_other w g g' _ y)
        have hBA : BoxAt C.own (w.setRow g ((us ++ vsx) ++ cur.toList.drop (B.els.length * B.esz + vsx.length)).toArray) (holdIm im (some g) (B.els.length * B.esz)) ρ
            { els := B.els ++ xs, esz := B.esz, ety := B.ety, fro := B.els.length, live := true, arr := true } (some g) :=
          BoxAt.of_new (B := { els := B.els ++ xs, esz := B.esz, ety := B.ety, fro := B.els.length, live := true, arr := true }) (us := us ++ vsx) (rest := cur.toList.drop (B.els.length * B.esz + vsx.length)) b1 hg' (by simp) b3 heapp (happ.mono hk.cell fun _ _ y => y)
            (by
              intro v hv
              rcases List.mem_append.1 hv with y | y
              · exact b9 v y
              · exact hox v y) (fun j hj => .inr ⟨rfl, hj⟩) rfl (by
              intro j hj y
              have : B.fro * B.esz ≤ B.els.length * B.esz := Nat.mul_le_mul_right _ b2
              simp at hj
              rcases y with y | ⟨_, y⟩
              · exact b11 hl j (by omega) y
              · omega)
        obtain ⟨h3, h4⟩ := h1.addBox ⟨hlr, hk, fun _ x => .inl x, fun _ _ x => x, fun _ _ x => .inl x⟩ h2 hidL hid1 _ _ (fun g' e => .inl ⟨b, by rw [hr0, e]⟩) hBA hdead
        refine ⟨_, _, _, _, hrun, h3, ?_⟩
        exact .bs id B.esz 0 (B.els.length + xs.length) g 0 cap _ B.ety (upd_same _ _ _) hg' (by simp) (by rw [hsz']; omega) hroom hcap3
      · have holds : ∀ j v, us[j]? = some v → w.cell? ((⟨g, 0, none⟩ : Addr).add j) = some v := by
          intro j v hv
          have hj : j < us.length := (List.getElem?_eq_some_iff.1 hv).1
          have : (⟨g, 0, none⟩ : Addr).add j = ⟨g, j, none⟩ := by unfold Addr.add; split <;> simp_all
          rw [this, cell_of_row _ _ _ _ _ _ b5, ← Array.getElem?_toList, b6, List.getElem?_append_left hj, hv]
        have hrun := run_append_grow (P := C.P) w T ty B.ety i z ht hi hz ⟨g, 0, none⟩ B.els.length cap us (by rw [hsz]; exact hul) holds Ax xs.length capx vsx (by rw [hsz]; exact hvl) hcx
          (by omega) hsmall (growslice_fits (by omega) hby)
        have hcapg := grownCap_ge w (B.els.length + xs.length) cap B.ety
        have hcapm := grownCap_le_maxLen w (B.els.length + xs.length) cap B.ety h63
        have hzc : (Builtin.zeroCells z.cells (grownCap w (B.els.length + xs.length) cap B.ety - (B.els.length + xs.length))).size = (grownCap w (B.els.length + xs.length) cap B.ety - (B.els.length + xs.length)) * B.esz := by rw [size_zeroCells, hzs, hsz]
        generalize grownCap w (B.els.length + xs.length) cap B.ety = ncap at *
        generalize Builtin.zeroCells z.cells (ncap - (B.els.length + xs.length)) = zc at *
        have harr : us.toArray ++ vsx.toArray ++ zc = ((us ++ vsx) ++ zc.toList).toArray := by apply Array.ext'; simp
        rw [harr] at hrun
        have hmul : ncap * B.esz = (B.els.length + xs.length) * B.esz + (ncap - (B.els.length + xs.length)) * B.esz := by rw [← Nat.add_mul]; congr 1; omega
        have hsum : (B.els.length + xs.length) * B.esz = B.els.length * B.esz + xs.length * B.esz := Nat.add_mul _ _ _
        obtain ⟨ρ', im', e1, e2⟩ := h1.append_new (els := B.els ++ xs) (E := B.ety) (us := us ++ vsx) (rest := zc.toList) hidL hid1 b3 heapp happ hokapp B.els.length ncap
          (by simp) (by rw [hlenapp]; omega) (by simp; omega) hcapm
        rw [hlenapp] at e2
        exact ⟨_, _, ρ', im', hrun, e1, e2⟩

end Go.Vl
