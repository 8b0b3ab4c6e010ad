/-
  Writing into a box, holding it as it is, and going on with it.
-/
import Derived.Test.YtkajnimlfehmeaaUB
set_option linter.unusedSimpArgs false
set_option linter.unusedVariables false
namespace Go.Vl
open Go.RowKit

def PV.one (e : PV) (vs : List PV) : PV := match vs with | [v] => v | _ => e
def PV.putCells (e : PV) (off : Nat) (vs : List PV) : PV :=
  match e with
  | .agg cs => .agg (cs.take off ++ vs ++ cs.drop (off + vs.length))
  | _ => PV.one e vs

theorem PV.cells_ok {v : PV} (h : v.okCell = true) : v.cells = [v] := by cases v <;> simp_all [PV.cells, PV.okCell]

theorem PV.putCells_cells {e : PV} {off : Nat} {vs : List PV} (h : off + vs.length ≤ e.cells.length) (ho : vs.all PV.okCell = true) :
    (e.putCells off vs).cells = e.cells.take off ++ vs ++ e.cells.drop (off + vs.length) := by
  have key : ∀ e : PV, e.cells = [e] → e.putCells off vs = PV.one e vs → off + vs.length ≤ 1 →
      (e.putCells off vs).cells = e.cells.take off ++ vs ++ e.cells.drop (off + vs.length) := by
    intro e he hp hl
    rw [hp, he]
    match vs, ho, hl with
    | [], _, hl => simp [he, PV.one]
    | [v], ho, hl =>
      simp at ho hl
      subst hl
      simp [PV.cells_ok ho, PV.one]
    | _ :: _ :: _, _, hl => simp at hl; omega
  cases e with
  | agg cs => rfl
  | _ => exact key _ rfl rfl (by simpa [PV.cells] using h)

theorem setRow_other (w : World) (g k : Nat) (cs : Array Value) (h : k ≠ g) : (w.setRow g cs).heap[k]? = w.heap[k]? := by
  have : ¬ g = k := fun e => h e.symm
  simp [World.setRow, Array.getElem?_modify, this]

theorem Lent.setRow {X : Nat → Prop} {w : World} {g : Nat} (hg : X g) (B : Nat) (cs : Array Value) : Lent X B w (w.setRow g cs) :=
  ⟨rfl, rfl, rfl, by rw [size_setRow]; exact Nat.le_refl _, fun k hk hx => setRow_other w g k cs fun e => hx (e ▸ hg)⟩

theorem Keeps.setRow {im : Im} {w : World} {g : Nat} {cur cur' : Array Value} {e : TypeId} (hg : w.heap[g]? = some (Obj.cells cur e (0, 0))) (hs : cur'.size = cur.size)
    (hj : ∀ j, im g j → cur'[j]? = cur[j]?) : Keeps im w (w.setRow g cur') := by
  have hg' : (w.setRow g cur').heap[g]? = some (Obj.cells cur' e (0, 0)) := setRow_heap w g cur _ e _ hg
  refine ⟨?_, ?_, ?_⟩
  · intro g' j hi
    by_cases x : g' = g
    · subst x
      rw [cell_of_row _ _ _ _ _ _ hg', cell_of_row _ _ _ _ _ _ hg]
      exact hj j hi
    · exact World.cell?_of_block (w := w) (a := ⟨g', j, none⟩) (setRow_other w g g' cur' x)
  · intro g' c t h
    by_cases x : g' = g
    · subst x
      rw [hg] at h
      cases h
      exact ⟨cur', hg', hs⟩
    · exact ⟨c, by rw [setRow_other w g g' cur' x]; exact h, rfl⟩
  · intro g' o h hn
    by_cases x : g' = g
    · subst x; rw [hg] at h; cases h; cases hn
    · rw [setRow_other w g g' cur' x]; exact h

/-- The numbers of a write at place p. -/
theorem splice_get {α : Type} (cur vs : List α) (p j : Nat) (hp : p + vs.length ≤ cur.length) (h : j < p ∨ p + vs.length ≤ j) :
    (cur.take p ++ vs ++ cur.drop (p + vs.length))[j]? = cur[j]? := by
  rcases h with h | h
  · rw [List.append_assoc, List.getElem?_append_left (by simp; omega), List.getElem?_take_of_lt h]
  · rw [List.getElem?_append_right (by simp; omega), List.getElem?_drop]
    congr 1
    simp
    omega

theorem Rel'.write {C : Ctx} {st : St} {a : Act} {w : World} {ρ : Rho} {im : Im} (h : Rel' C st a w ρ im) {b g i off : Nat} {B : Box} {e : PV} {vs : List PV} {us' : List Value}
    (hρ : ρ b = some (some g)) (hB : st.box b = some B) (hl : B.live = true) (hf : B.fro ≤ i) (he : B.els[i]? = some e) (hlen : off + vs.length ≤ e.cells.length)
    (hok : vs.all PV.okCell = true) (hr : LRL w im ρ vs us') (ha : B.arr = true → RepL w im vs us') :
    ∃ (cur : Array Value), w.heap[g]? = some (Obj.cells cur B.ety (0, 0)) ∧ i * B.esz + off + us'.length ≤ cur.size ∧
      Rel' C (st.setBox b { B with els := B.els.set i (e.putCells off vs) }) a
        (w.setRow g (cur.toList.take (i * B.esz + off) ++ us' ++ cur.toList.drop (i * B.esz + off + us'.length)).toArray) ρ im := by
  obtain ⟨h1, h2, h3, h4, cur, us, rest, h5, h6, h7, h8, h9, h10, h11⟩ := h.box b _ B hρ hB
  have hi : i < B.els.length := (List.getElem?_eq_some_iff.1 he).1
  have hez : e.cells.length = B.esz := h4 e (List.mem_of_getElem? he)
  have hul : us.length = B.els.length * B.esz := by rw [← h7.length, flat_length h4]
  have hvl : vs.length = us'.length := hr.length
  have hmul : i * B.esz + B.esz ≤ B.els.length * B.esz := by rw [← Nat.succ_mul]; exact Nat.mul_le_mul_right _ hi
  have hpu : i * B.esz + off + us'.length ≤ us.length := by omega
  have hcs : cur.size = us.length + rest.length := by rw [← Array.length_toList, h6]; simp
  have hfi : B.fro * B.esz ≤ i * B.esz := Nat.mul_le_mul_right _ hf
  refine ⟨cur, h5, by omega, ?_⟩
  have hsz : (cur.toList.take (i * B.esz + off) ++ us' ++ cur.toList.drop (i * B.esz + off + us'.length)).toArray.size = cur.size := by
    simp; omega
  have hni : ∀ j, B.fro * B.esz ≤ j → ¬ im g j := h11 hl
  have hk : Keeps im w (w.setRow g (cur.toList.take (i * B.esz + off) ++ us' ++ cur.toList.drop (i * B.esz + off + us'.length)).toArray) := by
    refine Keeps.setRow h5 hsz ?_
    intro j hj
    have : j < B.fro * B.esz := by
      rcases Nat.lt_or_ge j (B.fro * B.esz) with x | x
      · exact x
      · exact absurd hj (hni j x)
    rw [List.getElem?_toArray, splice_get _ _ _ _ (by simp; omega) (.inl (by omega)), Array.getElem?_toList]
  have hg' := setRow_heap w g cur (cur.toList.take (i * B.esz + off) ++ us' ++ cur.toList.drop (i * B.esz + off + us'.length)).toArray B.ety _ h5
  have hcells : (e.putCells off vs).cells = e.cells.take off ++ vs ++ e.cells.drop (off + vs.length) := PV.putCells_cells hlen hok
  have hcl : (e.putCells off vs).cells.length = B.esz := by rw [hcells]; simp; omega
  have hflat : (B.els.set i (e.putCells off vs)).flatMap PV.cells = (B.els.flatMap PV.cells).take (i * B.esz + off) ++ vs ++ (B.els.flatMap PV.cells).drop (i * B.esz + off + vs.length) := by
    rw [flat_set h4 hi hcl, hcells]
    have hF : (B.els.flatMap PV.cells).length = B.els.length * B.esz := flat_length h4
    have hd : ∀ j, j < B.esz → (B.els.flatMap PV.cells)[i * B.esz + j]? = e.cells[j]? := fun j hj => flat_get h4 he hj
    generalize B.els.flatMap PV.cells = F at *
    have t1 : F.take (i * B.esz + off) = F.take (i * B.esz) ++ e.cells.take off := by
      rw [List.take_add]
      congr 1
      apply List.ext_getElem?
      intro j
      simp only [List.getElem?_take, List.getElem?_drop]
      split
      · exact hd j (by omega)
      · rfl
    have t2 : F.drop (i * B.esz + off + vs.length) = e.cells.drop (off + vs.length) ++ F.drop (i * B.esz + B.esz) := by
      apply List.ext_getElem?
      intro j
      simp only [List.getElem?_drop]
      by_cases x : j < B.esz - (off + vs.length)
      · rw [List.getElem?_append_left (by simp; omega), List.getElem?_drop, ← hd _ (by omega)]
        congr 1; omega
      · rw [List.getElem?_append_right (by simp; omega), List.getElem?_drop]
        congr 1
        simp; omega
    rw [t1, t2]
    simp
  have hb' : Lent (Own ρ) w.heap.size w (w.setRow g (cur.toList.take (i * B.esz + off) ++ us' ++ cur.toList.drop (i * B.esz + off + us'.length)).toArray) := Lent.setRow ⟨b, hρ⟩ _ _
  have hurest : (cur.toList.take (i * B.esz + off) ++ us' ++ cur.toList.drop (i * B.esz + off + us'.length)) =
      (us.take (i * B.esz + off) ++ us' ++ us.drop (i * B.esz + off + us'.length)) ++ rest := by
    rw [h6, List.take_append_of_le_length (by omega), List.drop_append_of_le_length (by omega)]
    simp
  refine ⟨h.step ⟨hb', hk, fun _ x => .inl x, fun _ _ x => x, fun _ _ x => .inl x⟩ h.root.rho0, h.nt, dfr_keep hk h.dfr, ?_, ?_, ?_, ?_, ?_⟩
  · intro g' j x; rw [hk.cell g' j x]; exact h.imc g' j x
  · exact fun t v hv => (h.var t v hv).mono hk (fun _ _ x => x) (fun _ _ x => x)
  · intro b'
    by_cases x : b' = b
    · subst x; simp [St.setBox, upd_same, hρ]
    · simp [St.setBox, upd_other _ _ _ _ x, h.rho b']
  · intro b' x B' hx hB'
    by_cases eb : b' = b
    · subst eb
      simp only [St.setBox, upd_same, Option.some.injEq] at hB'
      rw [hρ] at hx
      cases hx
      subst hB'
      refine ⟨h1, by simpa using h2, h3, ?_, _, us.take (i * B.esz + off) ++ us' ++ us.drop (i * B.esz + off + us'.length), rest, hg', ?_, ?_, ?_, ?_, ?_, ?_⟩
      · intro e' he'
        rcases List.mem_or_eq_of_mem_set he' with x | x
        · exact h4 e' x
        · rw [x]; exact hcl
      · simpa using hurest
      · simp only [hflat]
        rw [hvl]
        exact ((((h7.take _).append hr).append (h7.drop _)).mono hk (fun _ _ x => x) (fun _ _ x => x))
      · intro ha'
        simp only [hflat]
        rw [hvl]
        exact (((((h8 ha').take _).append (ha ha')).append ((h8 ha').drop _)).mono hk.cell (fun _ _ x => x))
      · intro u hu
        simp only [List.mem_append] at hu
        rcases hu with (hu | hu) | hu
        · exact h9 u (List.mem_of_mem_take hu)
        · exact hr.oneCells hok u hu
        · exact h9 u (List.mem_of_mem_drop hu)
      · intro j hj hh
        refine h10 j ?_ hh
        simp at hj; omega
      · exact fun _ j hj => hni j hj
    · simp only [St.setBox, upd_other _ _ _ _ eb] at hB'
      refine (h.box b' x B' hx hB').mono hk (fun _ _ x => x) (fun _ _ _ _ x => x) (fun _ _ x => x) ?_
      intro hl' g' e'
      subst e'
      have : g' ≠ g := fun e => eb (h.inj b' b g' B' B hx (by rw [e]; exact hρ) hB' hB hl' hl)
      exact setRow_other w g g' _ this
  · intro b1 b2 g1 B1 B2 p1 p2 e1 e2 l1 l2
    have f : ∀ b0 B0, (st.setBox b { B with els := B.els.set i (e.putCells off vs) }).box b0 = some B0 → B0.live = true → ∃ B3, st.box b0 = some B3 ∧ B3.live = true := by
      intro b0 B0 e0 l0
      by_cases x : b0 = b
      · subst x; exact ⟨B, hB, hl⟩
      · simp only [St.setBox, upd_other _ _ _ _ x] at e0; exact ⟨B0, e0, l0⟩
    obtain ⟨B3, e3, l3⟩ := f b1 B1 e1 l1
    obtain ⟨B4, e4, l4⟩ := f b2 B2 e2 l2
    exact h.inj b1 b2 g1 B3 B4 p1 p2 e3 e4 l3 l4

/-- What lies at the head of a box is held as it is. -/
def holdIm (im : Im) (x : Option Nat) (n : Nat) : Im := fun g j => im g j ∨ (x = some g ∧ j < n)

theorem Rel'.hold {C : Ctx} {st : St} {a : Act} {w : World} {ρ : Rho} {im : Im} (h : Rel' C st a w ρ im) {b : Nat} {x : Option Nat} {B : Box} {n : Nat}
    (hρ : ρ b = some x) (hB : st.box b = some B) (hn : n ≤ B.els.length) (k : Bool) (hk : k = true ∨ B.els.length ≤ n) :
    Rel' C (st.setBox b { B with fro := max B.fro n, live := B.live && k }) a w ρ (holdIm im x (n * B.esz)) := by
  have hbox := h.box b x B hρ hB
  have himp : ∀ g j, im g j → holdIm im x (n * B.esz) g j := fun _ _ y => .inl y
  have hcell : ∀ g j, holdIm im x (n * B.esz) g j → im g j ∨ (x = some g ∧ C.own g ∧ ∃ u, w.cell? ⟨g, j, none⟩ = some u) := by
    rintro g j (y | ⟨rfl, y⟩)
    · exact .inl y
    · obtain ⟨h1, h2, h3, h4, cur, us, rest, h5, h6, h7, _⟩ := hbox
      have hul : us.length = B.els.length * B.esz := by rw [← h7.length, flat_length h4]
      have : n * B.esz ≤ B.els.length * B.esz := Nat.mul_le_mul_right _ hn
      have hcs : cur.size = us.length + rest.length := by rw [← Array.length_toList, h6]; simp
      refine .inr ⟨rfl, h1, cur[j]'(by omega), ?_⟩
      rw [cell_of_row _ _ _ _ _ _ h5]
      simp
  refine ⟨h.step ⟨.refl _ _ _, Keeps.refl _ _, fun _ y => .inl y, himp, ?_⟩ h.root.rho0, h.nt, h.dfr, ?_, ?_, ?_, ?_, ?_⟩
  · rintro g j (y | ⟨y, _⟩)
    · exact .inl y
    · exact .inr (.inl ⟨b, by rw [hρ, y]⟩)
  · intro g j y
    rcases hcell g j y with z | z
    · exact h.imc g j z
    · exact z.2.2
  · exact fun t v hv => (h.var t v hv).mono (Keeps.refl _ _) himp (fun _ _ x => x)
  · intro b'
    by_cases e : b' = b
    · subst e; simp [St.setBox, upd_same, hρ]
    · simp [St.setBox, upd_other _ _ _ _ e, h.rho b']
  · intro b' x' B' hx hB'
    by_cases eb : b' = b
    · subst eb
      simp only [St.setBox, upd_same, Option.some.injEq] at hB'
      rw [hρ] at hx
      cases hx
      subst hB'
      cases x with
      | none =>
        obtain ⟨z1, z2, z3, z4⟩ := hbox
        have : n = 0 := by rw [z1] at hn; simpa using hn
        exact ⟨z1, z2, by simp [z3, this], z4⟩
      | some g =>
        obtain ⟨h1, h2, h3, h4, cur, us, rest, h5, h6, h7, h8, h9, h10, h11⟩ := hbox
        have hul : us.length = B.els.length * B.esz := by rw [← h7.length, flat_length h4]
        have hmx : max B.fro n * B.esz = max (B.fro * B.esz) (n * B.esz) := by
          rcases Nat.le_total B.fro n with y | y
          · have := Nat.mul_le_mul_right B.esz y; rw [Nat.max_eq_right y, Nat.max_eq_right this]
          · have := Nat.mul_le_mul_right B.esz y; rw [Nat.max_eq_left y, Nat.max_eq_left this]
        refine ⟨h1, by simp; omega, h3, h4, cur, us, rest, h5, h6, h7.mono (Keeps.refl _ _) himp (fun _ _ x => x), fun y => (h8 y).mono (fun _ _ _ => rfl) himp, h9, ?_, ?_⟩
        · intro j hj hh
          simp only [Bool.and_eq_false_iff] at hh
          by_cases y : j < n * B.esz
          · exact .inr ⟨rfl, y⟩
          · refine .inl (h10 j hj ?_)
            rcases hh with hh | hh | hh
            · left; rw [hmx] at hh; omega
            · exact .inr hh
            · rcases hk with hk | hk
              · rw [hk] at hh; cases hh
              · have : B.els.length * B.esz ≤ n * B.esz := Nat.mul_le_mul_right _ hk
                omega
        · intro hl j hj hi
          simp only [Bool.and_eq_true] at hl
          simp only [hmx] at hj
          rcases hi with hi | ⟨_, hi⟩
          · exact h11 hl.1 j (by omega) hi
          · omega
    · simp only [St.setBox, upd_other _ _ _ _ eb] at hB'
      refine (h.box b' x' B' hx hB').mono (Keeps.refl _ _) himp ?_ (fun _ _ x => x) (fun _ _ _ => rfl)
      intro hl g j hg hi
      rcases hi with hi | ⟨hxg, hj⟩
      · exact hi
      · subst hg; subst hxg
        have hnl : B.live = false := by
          cases hBl : B.live with
          | false => rfl
          | true => exact absurd (h.inj b' b g B' B hx hρ hB' hB hl hBl) eb
        obtain ⟨h1, h2, h3, h4, cur, us, rest, h5, h6, h7, h8, h9, h10, h11⟩ := hbox
        have hul : us.length = B.els.length * B.esz := by rw [← h7.length, flat_length h4]
        have : n * B.esz ≤ B.els.length * B.esz := Nat.mul_le_mul_right _ hn
        exact h10 j (by omega) (.inr hnl)
  · intro b1 b2 g1 B1 B2 p1 p2 e1 e2 l1 l2
    have f : ∀ b0 B0, (st.setBox b { B with fro := max B.fro n, live := B.live && k }).box b0 = some B0 → B0.live = true → ∃ B3, st.box b0 = some B3 ∧ B3.live = true := by
      intro b0 B0 e0 l0
      by_cases y : b0 = b
      · subst y
        simp only [St.setBox, upd_same, Option.some.injEq] at e0
        subst e0
        simp only [Bool.and_eq_true] at l0
        exact ⟨B, hB, l0.1⟩
      · simp only [St.setBox, upd_other _ _ _ _ y] at e0; exact ⟨B0, e0, l0⟩
    obtain ⟨B3, e3, l3⟩ := f b1 B1 e1 l1
    obtain ⟨B4, e4, l4⟩ := f b2 B2 e2 l2
    exact h.inj b1 b2 g1 B3 B4 p1 p2 e3 e4 l3 l4

/-- What is read of a box. -/
theorem Rel'.seen {C : Ctx} {st : St} {a : Act} {w : World} {ρ : Rho} {im : Im} (h : Rel' C st a w ρ im) {b g i : Nat} {B : Box} {e : PV} (hρ : ρ b = some (some g))
    (hB : st.box b = some B) (he : B.els[i]? = some e) :
    e.cells.length = B.esz ∧ ∃ us, LRL w im ρ e.cells us ∧ (B.arr = true → RepL w im e.cells us) ∧ (∀ j, j < B.esz → w.cell? ⟨g, i * B.esz + j, none⟩ = us[j]?) := by
  obtain ⟨h1, h2, h3, h4, cur, us, rest, h5, h6, h7, h8, h9, h10, h11⟩ := h.box b _ B hρ hB
  have hi : i < B.els.length := (List.getElem?_eq_some_iff.1 he).1
  have hez := h4 e (List.mem_of_getElem? he)
  have hul : us.length = B.els.length * B.esz := by rw [← h7.length, flat_length h4]
  have hmul : i * B.esz + B.esz ≤ B.els.length * B.esz := by rw [← Nat.succ_mul]; exact Nat.mul_le_mul_right _ hi
  have hcut : ((B.els.flatMap PV.cells).drop (i * B.esz)).take B.esz = e.cells := by
    apply List.ext_getElem?
    intro j
    simp only [List.getElem?_take, List.getElem?_drop]
    split
    · rename_i hj; exact flat_get h4 he hj
    · rw [List.getElem?_eq_none]; omega
  refine ⟨hez, (us.drop (i * B.esz)).take B.esz, ?_, ?_, ?_⟩
  · have := (h7.drop (i * B.esz)).take B.esz; rwa [hcut] at this
  · intro ha
    have := ((h8 ha).drop (i * B.esz)).take B.esz; rwa [hcut] at this
  · intro j hj
    rw [cell_of_row _ _ _ _ _ _ h5, ← Array.getElem?_toList, h6, List.getElem?_append_left (by omega), List.getElem?_take_of_lt hj, List.getElem?_drop]

end Go.Vl
