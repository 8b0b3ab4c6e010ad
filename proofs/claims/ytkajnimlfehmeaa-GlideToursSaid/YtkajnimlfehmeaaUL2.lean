/-
  Boxes that are lent to a call, and what comes back.
-/
import Derived.Test.YtkajnimlfehmeaaUL
set_option linter.unusedSimpArgs false
set_option linter.unusedVariables false
namespace Go.Vl
open Go.RowKit

theorem lkp_mem {α : Type} : ∀ {l : List (Nat × α)} {k : Nat} {v : α}, lkp l k = some v → (k, v) ∈ l
  | [], _, _, h => by cases h
  | (j, x) :: l, k, v, h => by
    unfold lkp at h
    split at h
    · rename_i e; cases h; simp [e]
    · exact List.mem_cons_of_mem _ (lkp_mem h)
theorem mem_lkp {α : Type} : ∀ {l : List (Nat × α)} {k : Nat} {v : α}, (k, v) ∈ l → ∃ u, lkp l k = some u
  | (j, x) :: l, k, v, h => by
    unfold lkp
    split
    · exact ⟨x, rfl⟩
    · rename_i hne
      rcases List.mem_cons.1 h with e | e
      · cases e; exact absurd rfl hne
      · exact mem_lkp e
theorem lkp_append {α : Type} : ∀ (l m : List (Nat × α)) (k : Nat), lkp (l ++ m) k = match lkp l k with | some v => some v | none => lkp m k
  | [], _, _ => rfl
  | (j, x) :: l, m, k => by
    simp only [List.cons_append, lkp]
    split
    · rfl
    · exact lkp_append l m k
theorem rlk_mem : ∀ {l : List (Nat × Nat)} {b b' : Nat}, rlk l b = some b' → (b', b) ∈ l
  | [], _, _, h => by cases h
  | (j, x) :: l, k, v, h => by
    unfold rlk at h
    split at h
    · rename_i e; cases h; simp [e]
    · exact List.mem_cons_of_mem _ (rlk_mem h)

theorem okMap_mem {κ : List (Nat × Nat)} (h : okMap κ = true) {b' b : Nat} (hm : (b', b) ∈ κ) : lkp κ b' = some b ∧ rlk κ b = some b' := by
  have := List.all_eq_true.1 h _ hm
  simpa using this
theorem okMap_iff {κ : List (Nat × Nat)} (h : okMap κ = true) {b' b : Nat} : lkp κ b' = some b ↔ rlk κ b = some b' :=
  ⟨fun e => (okMap_mem h (lkp_mem e)).2, fun e => (okMap_mem h (rlk_mem e)).1⟩

section
variable {w : World} {im im2 : Im} {ρ ρ2 : Rho} {κ : List (Nat × Nat)}

theorem ren0_fwd (hρ : ∀ b c x, lkp κ b = some c → ρ b = some x → ρ2 c = some x) {v v' : PV} {u : Value} (hr : ren0 κ v = some v') (h : LR w im ρ v u) : LR w im ρ2 v' u := by
  unfold ren0 at hr
  split at hr
  · rename_i b esz i off
    split at hr
    · rename_i c hb
      cases hr
      obtain ⟨g, hg, rfl⟩ := h.bp_inv
      exact .bp _ _ _ _ g _ (hρ _ _ _ hb hg) rfl
    · cases hr
  · rename_i b esz off len
    split at hr
    · rename_i c hb
      cases hr
      rcases h.bs_inv with ⟨e, ⟨x, rfl⟩, rfl, rfl⟩ | ⟨g, cap, cur, e, hg, rfl, ho, hc, hl, hm⟩
      · exact .bsNil _ _ x (hρ _ _ _ hb e)
      · exact .bs _ _ _ _ g _ cap cur e (hρ _ _ _ hb hg) ho rfl hc hl hm
    · cases hr
  · cases hr
    obtain ⟨a, b, rfl, h1, h2⟩ := h.fn_inv
    cases h1.nil_inv; cases h2.nil_inv
    exact .ext _ _ (.fn _ [] [] [] [] .nil .nil)
  · cases hr
  · cases hr
  · cases hr
  · rename_i n1 n2 n3 n4 n5 n6
    cases hr
    cases h with
    | ext _ _ h => exact .ext _ _ h
    | undef u => exact .undef u
    | bp => exact absurd rfl (n1 _ _ _ _)
    | bsNil => exact absurd rfl (n2 _ _ _ _)
    | bs => exact absurd rfl (n2 _ _ _ _)
    | agg => exact absurd rfl (n5 _)
    | tup => exact absurd rfl (n6 _)
    | fn => exact absurd rfl (n4 _ _ _)
theorem ren0L_fwd (hρ : ∀ b c x, lkp κ b = some c → ρ b = some x → ρ2 c = some x) : ∀ {vs vs' : List PV} {us : List Value}, ren0L κ vs = some vs' → LRL w im ρ vs us → LRL w im ρ2 vs' us
  | [], vs', us, hr, h => by simp [ren0L] at hr; subst hr; cases h.nil_inv; exact .nil
  | v :: vs, vs', us, hr, h => by
    unfold ren0L at hr
    split at hr
    · cases hr
    · rename_i x hx
      split at hr
      · cases hr
      · rename_i xs hxs
        cases hr
        obtain ⟨u, us', rfl, h1, h2⟩ := h.cons_inv
        exact .cons _ _ _ _ (ren0_fwd hρ hx h1) (ren0L_fwd hρ hxs h2)
theorem ren1_fwd (hρ : ∀ b c x, lkp κ b = some c → ρ b = some x → ρ2 c = some x) {v v' : PV} {u : Value} (hr : ren1 κ v = some v') (h : LR w im ρ v u) : LR w im ρ2 v' u := by
  unfold ren1 at hr
  split at hr
  · split at hr
    · rename_i xs hxs
      cases hr
      obtain ⟨us, rfl, h1⟩ := h.agg_inv
      exact .agg _ _ (ren0L_fwd hρ hxs h1)
    · cases hr
  · cases hr
    obtain ⟨us, rfl, h1⟩ := h.tup_inv
    cases h1.nil_inv
    exact .ext _ _ (.tup [] [] .nil)
  · split at hr
    · cases hr
    · rename_i x hx
      split at hr
      · cases hr
      · rename_i y hy
        cases hr
        obtain ⟨a, b, rfl, h1, h2⟩ := h.fn_inv
        exact .fn _ _ _ _ _ (ren0L_fwd hρ hx h1) (ren0L_fwd hρ hy h2)
  · exact ren0_fwd hρ hr h
theorem ren1L_fwd (hρ : ∀ b c x, lkp κ b = some c → ρ b = some x → ρ2 c = some x) : ∀ {vs vs' : List PV} {us : List Value}, ren1L κ vs = some vs' → LRL w im ρ vs us → LRL w im ρ2 vs' us
  | [], vs', us, hr, h => by simp [ren1L] at hr; subst hr; cases h.nil_inv; exact .nil
  | v :: vs, vs', us, hr, h => by
    unfold ren1L at hr
    split at hr
    · cases hr
    · rename_i x hx
      split at hr
      · cases hr
      · rename_i xs hxs
        cases hr
        obtain ⟨u, us', rfl, h1, h2⟩ := h.cons_inv
        exact .cons _ _ _ _ (ren1_fwd hρ hx h1) (ren1L_fwd hρ hxs h2)
theorem ren2_fwd (hρ : ∀ b c x, lkp κ b = some c → ρ b = some x → ρ2 c = some x) {v v' : PV} {u : Value} (hr : ren2 κ v = some v') (h : LR w im ρ v u) : LR w im ρ2 v' u := by
  unfold ren2 at hr
  split at hr
  · split at hr
    · rename_i xs hxs
      cases hr
      obtain ⟨us, rfl, h1⟩ := h.tup_inv
      exact .tup _ _ (ren1L_fwd hρ hxs h1)
    · cases hr
  · exact ren1_fwd hρ hr h

/-! ### what is flat is so whatever is held -/
theorem flatc_rep {v : PV} {u : Value} (hf : flatc v = true) (h : LR w im ρ v u) : Rep w im2 v u := by
  cases v <;> first
    | (simp [flatc] at hf; done)
    | (cases h with | ext _ _ h => cases h <;> constructor)
theorem flatcL_rep : ∀ {vs : List PV} {us : List Value}, vs.all flatc = true → LRL w im ρ vs us → RepL w im2 vs us
  | [], _, _, .nil => .nil
  | v :: vs, _, hf, .cons _ u _ us h t => by
    simp only [List.all_cons, Bool.and_eq_true] at hf
    exact .cons _ _ _ _ (flatc_rep hf.1 h) (flatcL_rep hf.2 t)
theorem flatr0_LR {v : PV} {u : Value} (hf : flatr0 v = true) (h : LR w im ρ v u) : LR w im2 ρ v u := by
  cases v with
  | bs b e o l =>
    rcases h.bs_inv with ⟨e1, ⟨x, rfl⟩, rfl, rfl⟩ | ⟨g, cap, cur, e1, hg, rfl, ho, hc, hl, hm⟩
    · exact .bsNil _ _ x e1
    · exact .bs _ _ _ _ g _ cap cur e1 hg ho rfl hc hl hm
  | bp b e i o => obtain ⟨g, hg, rfl⟩ := h.bp_inv; exact .bp _ _ _ _ g _ hg rfl
  | _ => exact .ext _ _ (flatc_rep hf h)
theorem flatr0L_LR : ∀ {vs : List PV} {us : List Value}, vs.all flatr0 = true → LRL w im ρ vs us → LRL w im2 ρ vs us
  | [], _, _, .nil => .nil
  | v :: vs, _, hf, .cons _ u _ us h t => by
    simp only [List.all_cons, Bool.and_eq_true] at hf
    exact .cons _ _ _ _ (flatr0_LR hf.1 h) (flatr0L_LR hf.2 t)
theorem flatr1_LR {v : PV} {u : Value} (hf : flatr1 v = true) (h : LR w im ρ v u) : LR w im2 ρ v u := by
  cases v with
  | agg cs => obtain ⟨us, rfl, h1⟩ := h.agg_inv; exact .agg _ _ (flatr0L_LR hf h1)
  | _ => exact flatr0_LR hf h
theorem flatr1L_LR : ∀ {vs : List PV} {us : List Value}, vs.all flatr1 = true → LRL w im ρ vs us → LRL w im2 ρ vs us
  | [], _, _, .nil => .nil
  | v :: vs, _, hf, .cons _ u _ us h t => by
    simp only [List.all_cons, Bool.and_eq_true] at hf
    exact .cons _ _ _ _ (flatr1_LR hf.1 h) (flatr1L_LR hf.2 t)
theorem flatr_LR {v : PV} {u : Value} (hf : flatr v = true) (h : LR w im ρ v u) : LR w im2 ρ v u := by
  cases v with
  | tup cs => obtain ⟨us, rfl, h1⟩ := h.tup_inv; exact .tup _ _ (flatr1L_LR hf h1)
  | _ => exact flatr1_LR hf h

theorem extCell_rep {v : PV} {u : Value} (hf : extCell v = true) (h : LR w im ρ v u) : Rep w im v u := by
  unfold extCell at hf
  split at hf <;> first
    | (cases h with | ext _ _ h => exact h)
    | (obtain ⟨a, b, rfl, h1, h2⟩ := h.fn_inv
       cases h1.nil_inv; cases h2.nil_inv
       exact .fn _ [] [] [] [] .nil .nil)
    | (cases hf; done)
theorem extCells_rep : ∀ {vs : List PV} {us : List Value}, vs.all extCell = true → LRL w im ρ vs us → RepL w im vs us
  | [], _, _, .nil => .nil
  | v :: vs, _, hf, .cons _ u _ us h t => by
    simp only [List.all_cons, Bool.and_eq_true] at hf
    exact .cons _ _ _ _ (extCell_rep hf.1 h) (extCells_rep hf.2 t)
theorem Box.ext_rep {B : Box} {us : List Value} (he : B.ext = true) (h : LRL w im ρ (B.els.flatMap PV.cells) us) (ha : B.arr = true → RepL w im (B.els.flatMap PV.cells) us) : RepL w im (B.els.flatMap PV.cells) us := by
  simp only [Box.ext, Bool.or_eq_true] at he
  rcases he with e | e
  · exact ha e
  · exact extCells_rep e h
end

/-! ### lending -/
theorem lentBoxes_spec : ∀ {θ : List (Nat × Nat)} {bx : Bx} {bxs : List (Nat × Box)} {l : Acc}, lentBoxes θ bx = some (bxs, l) →
    (∀ b', lkp bxs b' = match lkp θ b' with | some b => bx b | none => none) ∧ ∀ p ∈ θ, ∃ B, bx p.2 = some B ∧ B.live = true ∧ B.ext = true ∧ LENT ≤ p.1
  | [], bx, bxs, l, h => by obtain ⟨e, _⟩ := M.pure_some h; subst e; exact ⟨fun _ => rfl, by simp⟩
  | (b', b) :: θ, bx, bxs, l, h => by
    obtain ⟨Bo, _, _, e1, e2, _⟩ := M.bind_some h
    obtain ⟨rfl, _⟩ := M.hard_some e1
    obtain ⟨B, _, _, e3, e4, _⟩ := M.bind_some e2
    obtain ⟨c1, _⟩ := M.ofOpt_some e3
    obtain ⟨_, _, _, e5, e6, _⟩ := M.bind_some e4
    obtain ⟨c2, _⟩ := M.ok_some e5
    obtain ⟨bs, _, _, e7, e8, _⟩ := M.bind_some e6
    obtain ⟨e9, _⟩ := M.pure_some e8
    subst e9
    obtain ⟨k1, k2⟩ := lentBoxes_spec e7
    simp only [Bool.and_eq_true] at c2
    refine ⟨fun x => ?_, ?_⟩
    · simp only [lkp]
      by_cases hx : x = b'
      · simp [hx, c1]
      · simp only [hx, if_false]; exact k1 x
    · intro p hp
      rcases List.mem_cons.1 hp with rfl | hp
      · exact ⟨B, c1, c2.1.1, c2.1.2, Nat.le_of_ble_eq_true c2.2⟩
      · exact k2 p hp
theorem freeIds_spec : ∀ {ν : List (Nat × Nat)} {bx : Bx} {u : Unit} {l : Acc}, freeIds ν bx = some (u, l) → ∀ p ∈ ν, bx p.2 = none ∧ p.2 < LENT
  | [], _, _, _, _ => by simp
  | (b', b) :: ν, bx, u, l, h => by
    obtain ⟨Bo, _, _, e1, e2, _⟩ := M.bind_some h
    obtain ⟨rfl, _⟩ := M.hard_some e1
    obtain ⟨_, _, _, e5, e6, _⟩ := M.bind_some e2
    obtain ⟨c2, _⟩ := M.ok_some e5
    simp only [Bool.and_eq_true, Option.isNone_iff_eq_none] at c2
    intro p hp
    rcases List.mem_cons.1 hp with rfl | hp
    · exact ⟨c2.1, Nat.le_of_ble_eq_true c2.2⟩
    · exact freeIds_spec e6 p hp

section
variable {C : Ctx} {a : Act} {w : World} {ρ : Rho} {bx : Bx} {θ : List (Nat × Nat)}

/-- our places, under the call's names -/
def rhoC (θ : List (Nat × Nat)) (ρ : Rho) : Rho := fun b' => (lkp θ b').bind ρ

theorem lend1_sim (hθ : ∀ b b', rlk θ b = some b' → lkp θ b' = some b) {st : St} {im : Im} (h : Rel' C st a w ρ im) (hs : SoftEq bx st) {v y : PV} {u : Value} {es : List Eff} {l : Acc} (hv : LR w im ρ v u) (he : lend1 θ v bx = some ((y, es), l)) :
    ∃ im', Gone C st (effsOn es st) a w ρ im im' bx ∧ LR w im' (rhoC θ ρ) y u := by
  have plain : ∀ {v}, LR w im ρ v u → esc1 v bx = some ((y, es), l) → ∃ im', Gone C st (effsOn es st) a w ρ im im' bx ∧ LR w im' (rhoC θ ρ) y u := fun hv he =>
    let ⟨im', g, r⟩ := esc1_sim h hs hv he
    ⟨im', g, .ext _ _ r⟩
  unfold lend1 at he
  split at he
  · rename_i b esz off len
    cases hb : rlk θ b with
    | none => simp only [hb] at he; exact plain hv he
    | some b' =>
      simp only [hb] at he
      obtain ⟨e, _⟩ := M.pure_some he; cases e
      have hl := hθ _ _ hb
      refine ⟨im, Gone.refl h hs, ?_⟩
      rcases hv.bs_inv with ⟨e, ⟨x, rfl⟩, rfl, rfl⟩ | ⟨g, cap, cur, e, hg, rfl, ho, hc, hlc, hm⟩
      · exact .bsNil _ _ x (by simp [rhoC, hl, e])
      · exact .bs _ _ _ _ g _ cap cur e (by simp [rhoC, hl, hg]) ho rfl hc hlc hm
  · rename_i b esz i off
    cases hb : rlk θ b with
    | none => simp only [hb] at he; exact plain hv he
    | some b' =>
      simp only [hb] at he
      obtain ⟨e, _⟩ := M.pure_some he; cases e
      have hl := hθ _ _ hb
      refine ⟨im, Gone.refl h hs, ?_⟩
      obtain ⟨g, hg, rfl⟩ := hv.bp_inv
      exact .bp _ _ _ _ g _ (by simp [rhoC, hl, hg]) rfl
  · exact plain hv he

theorem lendL_sim (hθ : ∀ b b', rlk θ b = some b' → lkp θ b' = some b) : ∀ {st : St} {im : Im} (_ : Rel' C st a w ρ im) (_ : SoftEq bx st) {vs ys : List PV} {us : List Value} {es : List Eff} {l : Acc} (_ : LRL w im ρ vs us)
    (_ : lendL θ vs bx = some ((ys, es), l)), ∃ im', Gone C st (effsOn es st) a w ρ im im' bx ∧ LRL w im' (rhoC θ ρ) ys us := by
  intro st im h hs vs
  induction vs generalizing st im with
  | nil =>
    intro ys us es l hv he
    obtain ⟨e, _⟩ := M.pure_some he; cases e
    cases hv.nil_inv
    exact ⟨im, Gone.refl h hs, .nil⟩
  | cons v vs ih =>
    intro ys us es l hv he
    obtain ⟨u, us', rfl, h1, h2⟩ := hv.cons_inv
    obtain ⟨⟨y, e1⟩, l1, l2, k1, k2, _⟩ := M.bind_some he
    obtain ⟨⟨ys', e2⟩, l3, l4, k3, k4, _⟩ := M.bind_some k2
    obtain ⟨k5, _⟩ := M.pure_some k4; cases k5
    obtain ⟨im1, g1, r1⟩ := lend1_sim hθ h hs h1 k1
    obtain ⟨im2, g2, r2⟩ := ih g1.rel g1.soft (h2.mono (Keeps.refl _ _) g1.im fun _ _ x => x) k3
    refine ⟨im2, by rw [effsOn_append]; exact g1.trans g2, .cons _ _ _ _ (r1.mono (Keeps.refl _ _) g2.im fun _ _ x => x) r2⟩

/-! ### what comes back -/
theorem landBoxes_spec {κ : List (Nat × Nat)} (hκ : okMap κ = true) : ∀ {bxs : List (Nat × Box)} {es : List Eff}, landBoxes κ bxs = some es →
    (∀ b' B, lkp bxs b' = some B → B.ext = true ∧ ∃ b, lkp κ b' = some b) ∧
    ∀ st : St, (effsOn es st).var = st.var ∧ (effsOn es st).out = st.out ∧ (effsOn es st).yl = st.yl ∧ ∀ b, (effsOn es st).box b = match rlk κ b with | some b' => (match lkp bxs b' with | some B => some B | none => st.box b) | none => st.box b
  | [], es, h => by
    simp [landBoxes] at h; subst h
    refine ⟨fun b' B h => (by cases h), fun st => ⟨rfl, rfl, rfl, fun b => ?_⟩⟩
    simp only [effsOn_nil, lkp]
    split <;> rfl
  | (b', B) :: bs, es, h => by
    unfold landBoxes at h
    split at h
    · cases h
    · rename_i b hb
      split at h
      · rename_i hc
        split at h
        · rename_i es' hes
          cases h
          obtain ⟨k1, k2⟩ := landBoxes_spec hκ hes
          refine ⟨?_, fun st => ?_⟩
          · intro x B' hx
            unfold lkp at hx
            split at hx
            · rename_i e; cases hx; subst e; exact ⟨hc.1, b, hb⟩
            · exact k1 x B' hx
          · obtain ⟨m1, m2, m3, m4⟩ := k2 (st.setBox b B)
            rw [effsOn_cons]
            refine ⟨m1, m2, m3, fun c => ?_⟩
            show (effsOn es' (st.setBox b B)).box c = _
            rw [m4 c]
            have hn : lkp bs b' = none := by simpa using hc.2
            cases hr : rlk κ c with
            | none =>
              simp only
              have : c ≠ b := by rintro rfl; rw [(okMap_iff hκ).1 hb] at hr; cases hr
              exact upd_other _ _ _ _ this
            | some c' =>
              simp only [lkp]
              by_cases e : c' = b'
              · subst e
                have : c = b := by have := (okMap_iff hκ).2 hr; rw [hb] at this; exact (Option.some.inj this).symm
                subst this
                simp [hn, St.setBox, upd_same]
              · have : c ≠ b := by rintro rfl; rw [(okMap_iff hκ).1 hb] at hr; cases hr; exact e rfl
                simp only [e, if_false]
                cases lkp bs c' with
                | some B' => rfl
                | none => exact upd_other _ _ _ _ this
        · cases h
      · cases h

end

theorem Rel'.turned {C : Ctx} {st : St} {a : Act} {w w' : World} {ρ : Rho} {im : Im} {args : List PV} (h : Rel' C st a w ρ im) (ht : Turn C.X C.base ρ im w w') (hj : C.J (Own ρ) im (st.out ++ [args]) w') :
    Rel' C { st with out := st.out ++ [args] } a w' ρ im where
  root := ⟨h.root.below.trans ht.lent, h.root.keep.trans ht.keep h.root.im0, h.root.im0, h.root.im1, h.root.rho0, hj, h.root.yl⟩
  nt := h.nt
  dfr := dfr_keep ht.keep h.dfr
  imc := fun g j hi => by rw [ht.keep.cell g j hi]; exact h.imc g j hi
  var := fun t v hv => (h.var t v hv).mono ht.keep (fun _ _ x => x) (fun _ _ x => x)
  rho := h.rho
  box := fun b x B hx hB => (h.box b x B hx hB).mono ht.keep (fun _ _ x => x) (fun _ _ _ _ x => x) (fun _ _ x => x) fun _ g hg => ht.own g ⟨b, by rw [hx, hg]⟩
  inj := h.inj

theorem land_sim {C : Ctx} {st : St} {a : Act} {w : World} {ρ : Rho} {im im1 : Im} {θ ν : List (Nat × Nat)} (h : Rel' C st a w ρ im) (hi : ∀ g j, im g j → im1 g j) (hκ : okMap (θ ++ ν) = true)
    (hlent : ∀ p ∈ θ, ∃ B, st.box p.2 = some B ∧ B.live = true) (hfree : ∀ p ∈ ν, st.box p.2 = none ∧ p.2 < LENT) {r r' : PV} {bxs' : List (Nat × Box)} {ef : List Eff} (hl : land θ ν bxs' r = some (r', ef))
    {w' : World} {ρ' : Rho} {im' : Im} {v : Value} (hst : Step (rhoC θ ρ) im1 w ρ' im' w') (himc : ∀ g j, im' g j → ∃ u, w'.cell? ⟨g, j, none⟩ = some u) (hbox : Boxes (Own ρ') w' im' ρ' (lkp bxs'))
    (hstay : ∀ b x x', rhoC θ ρ b = some x → ρ' b = some x' → x' = x) (hrv : LR w' im' ρ' r v) (hF : (∀ g j, im1 g j → im g j) ∨ flatB r bxs' = true) :
    ∃ ρ2 im2, Rel' C (effsOn ef st) a w' ρ2 im2 ∧ LR w' im2 ρ2 r' v := by
  unfold land at hl
  split at hl
  case isFalse => cases hl
  rename_i hkeys
  split at hl
  case h_2 => cases hl
  rename_i r1 es1 hr2 hlb
  cases hl
  obtain ⟨kx, kst⟩ := landBoxes_spec hκ hlb
  obtain ⟨kvar, kout, kyl, kbox⟩ := kst st
  have hin : ∀ b' b, lkp (θ ++ ν) b' = some b → ∃ B, lkp bxs' b' = some B := fun b' b e => Option.isSome_iff_exists.1 (List.all_eq_true.1 hkeys _ (lkp_mem e))
  have hownC : ∀ g, Own (rhoC θ ρ) g → ∃ b b' B, (b', b) ∈ θ ∧ lkp θ b' = some b ∧ ρ b = some (some g) ∧ st.box b = some B ∧ B.live = true := by
    rintro g ⟨b', hb'⟩
    unfold rhoC at hb'
    cases e : lkp θ b' with
    | none => rw [e] at hb'; cases hb'
    | some b =>
      rw [e] at hb'
      obtain ⟨B, hB, hBl⟩ := hlent _ (lkp_mem e)
      exact ⟨b, b', B, lkp_mem e, e, hb', hB, hBl⟩
  have hownC' : ∀ g, Own (rhoC θ ρ) g → Own ρ g := fun g x => let ⟨b, _, _, _, _, e, _⟩ := hownC g x; ⟨b, e⟩
  obtain ⟨ρ2, hρ2⟩ : ∃ ρ2 : Rho, ∀ b, ρ2 b = match rlk (θ ++ ν) b with | some b' => ρ' b' | none => ρ b := ⟨fun b => match rlk (θ ++ ν) b with | some b' => ρ' b' | none => ρ b, fun _ => rfl⟩
  obtain ⟨im2, him2⟩ : ∃ im2 : Im, ∀ g j, im2 g j ↔ (im g j ∨ (im' g j ∧ (Own (rhoC θ ρ) g ∨ w.heap.size ≤ g))) := ⟨fun g j => im g j ∨ (im' g j ∧ (Own (rhoC θ ρ) g ∨ w.heap.size ≤ g)), fun _ _ => Iff.rfl⟩
  have him2' : ∀ g j, im2 g j → im' g j := fun g j x => ((him2 g j).1 x).elim (fun y => hst.mono g j (hi g j y)) fun y => y.1
  have hmono : ∀ g j, im g j → im2 g j := fun g j x => (him2 g j).2 (.inl x)
  have hkeep : Keeps im w w' := ⟨fun g j x => hst.keep.cell g j (hi g j x), hst.keep.obj, hst.keep.oth⟩
  -- a name of ours that is not the call's
  have hold : ∀ b x, ρ b = some x → ρ2 b = some x := by
    intro b x hx
    rw [hρ2]
    cases e : rlk (θ ++ ν) b with
    | none => exact hx
    | some b' =>
      simp only
      have hm := rlk_mem e
      obtain ⟨B', hB'⟩ := hin b' b ((okMap_iff hκ).2 e)
      rcases List.mem_append.1 hm with hm | hm
      · obtain ⟨c, hc⟩ := mem_lkp hm
        have hcb : c = b := by
          have := (okMap_iff hκ).2 e
          rw [lkp_append, hc] at this
          exact Option.some.inj this
        subst hcb
        have hrc : rhoC θ ρ b' = some x := by simp [rhoC, hc, hx]
        cases hx' : ρ' b' with
        | none => rw [(hbox.rho b').1 hx'] at hB'; cases hB'
        | some x' => rw [hstay b' x x' hrc hx']
      · have := (h.rho b).2 (hfree _ hm).1
        rw [this] at hx; cases hx
  have hfwd : ∀ b c x, lkp (θ ++ ν) b = some c → ρ' b = some x → ρ2 c = some x := by
    intro b c x e hx
    rw [hρ2, (okMap_iff hκ).1 e]; exact hx
  have himp : ∀ g j, im' g j → (Own ρ' g) → im2 g j := by
    intro g j x y
    exact (him2 g j).2 (.inr ⟨x, hst.own g y⟩)
  -- what is held by the call may be held by us, where nothing is flat
  have hall : (∀ g j, im1 g j → im g j) → ∀ g j, im' g j → im2 g j := by
    intro hF g j x
    rcases hst.imn g j x with y | y | y
    · exact hmono _ _ (hF g j y)
    · exact (him2 g j).2 (.inr ⟨x, .inl y⟩)
    · exact (him2 g j).2 (.inr ⟨x, .inr y⟩)
  have hcont : ∀ b' B us, lkp bxs' b' = some B → LRL w' im' ρ' (B.els.flatMap PV.cells) us → (B.arr = true → RepL w' im' (B.els.flatMap PV.cells) us) → RepL w' im2 (B.els.flatMap PV.cells) us := by
    intro b' B us hB h1 h2
    have hr := Box.ext_rep (kx b' B hB).1 h1 h2
    rcases hF with hF | hF
    · exact hr.mono (fun _ _ _ => rfl) (hall hF)
    · simp only [flatB, Bool.and_eq_true] at hF
      exact flatcL_rep (List.all_eq_true.1 hF.2 _ (lkp_mem hB)) (hr.toLRL (ρ := ρ'))
  -- the new boxes
  have hnewbox : ∀ b b' x B, rlk (θ ++ ν) b = some b' → ρ' b' = some x → lkp bxs' b' = some B → BoxAt C.own w' im2 ρ2 B x := by
    intro b b' x B e hx hB
    have hb := hbox.box b' x B hx hB
    cases x with
    | none => exact hb
    | some g =>
      obtain ⟨h1, h2, h3, h4, cur, us, rest, h5, h6, h7, h8, h9, h10, h11⟩ := hb
      have hr := hcont b' B us hB h7 h8
      have hown : C.own g := by
        rcases hst.own g h1 with y | y
        · exact (h.ownB (hownC' g y)).1
        · exact .inl (Nat.le_trans h.root.below.size y)
      exact ⟨hown, h2, h3, h4, cur, us, rest, h5, h6, hr.toLRL, fun _ => hr, h9, fun j hj hh => himp g j (h10 j hj hh) h1, fun hl j hj hh => h11 hl j hj (him2' g j hh)⟩
  have hoff : ∀ b g B, rlk (θ ++ ν) b = none → ρ b = some (some g) → st.box b = some B → B.live = true → ¬ Own (rhoC θ ρ) g := by
    intro b g B e hb hB hBl hc
    obtain ⟨b1, b1', B1, hm, _, e1, e2, e3⟩ := hownC g hc
    have := h.inj b b1 g B B1 hb e1 hB e2 hBl e3
    subst this
    have hm' : (b1', b) ∈ θ ++ ν := List.mem_append_left _ hm
    rw [(okMap_mem hκ hm').2] at e; cases e
  refine ⟨ρ2, im2, ⟨?_, h.nt, dfr_keep hkeep h.dfr, ?_, ?_, ?_, ?_, ?_⟩, ?_⟩
  · have hstep : Step ρ im w ρ2 im2 w' := by
      refine ⟨hst.lent.mono (Nat.le_refl _) fun k _ x => hownC' k x, hkeep, ?_, hmono, ?_⟩
      · rintro g ⟨b, hb⟩
        rw [hρ2] at hb
        cases e : rlk (θ ++ ν) b with
        | none => rw [e] at hb; exact .inl ⟨b, hb⟩
        | some b' => rw [e] at hb; exact (hst.own g ⟨b', hb⟩).imp (hownC' g) id
      · intro g j x
        rcases (him2 g j).1 x with y | ⟨_, y⟩
        · exact .inl y
        · exact .inr (y.imp (hownC' g) id)
    have hroot := h.step hstep (by
      intro b x x' hL h0 hx'
      cases hρb : ρ b with
      | none =>
        exfalso
        rw [hρ2] at hx'
        cases e : rlk (θ ++ ν) b with
        | none => rw [e, hρb] at hx'; cases hx'
        | some b' =>
          rcases List.mem_append.1 (rlk_mem e) with hm | hm
          · obtain ⟨B, hB, _⟩ := hlent _ hm
            rw [(h.rho b).1 hρb] at hB; cases hB
          · exact absurd (hfree _ hm).2 (Nat.not_lt.2 hL)
      | some y =>
        have := h.root.rho0 b x y hL h0 hρb
        subst this
        rw [hold b _ hρb] at hx'
        exact (Option.some.inj hx').symm)
    rw [kout, kyl]
    exact hroot
  · intro g j x
    rcases (him2 g j).1 x with y | ⟨y, _⟩
    · rw [hkeep.cell g j y]; exact h.imc g j y
    · exact himc g j y
  · intro t x hx
    rw [kvar] at hx
    exact (h.var t x hx).mono hkeep hmono hold
  · intro b
    rw [hρ2, kbox]
    cases e : rlk (θ ++ ν) b with
    | none => exact h.rho b
    | some b' =>
      simp only
      obtain ⟨B, hB⟩ := hin b' b ((okMap_iff hκ).2 e)
      rw [hB]
      simp only [reduceCtorEq, iff_false]
      intro hn
      rw [(hbox.rho b').1 hn] at hB; cases hB
  · intro b x B hx hB
    rw [hρ2] at hx
    rw [kbox] at hB
    cases e : rlk (θ ++ ν) b with
    | none =>
      rw [e] at hx hB
      refine (h.box b x B hx hB).mono hkeep hmono ?_ hold ?_
      · intro hl g j hg hh
        rcases (him2 g j).1 hh with y | ⟨_, y⟩
        · exact y
        · subst hg
          rcases y with y | y
          · exact absurd y (hoff b g B e hx hB hl)
          · exact absurd (h.block_lt hx).1 (Nat.not_lt.2 y)
      · intro hl g hg
        subst hg
        exact hst.lent.block g (h.block_lt hx).1 (hoff b g B e hx hB hl)
    | some b' =>
      rw [e] at hx hB
      obtain ⟨B', hB'⟩ := hin b' b ((okMap_iff hκ).2 e)
      simp only [hB', Option.some.injEq] at hB
      subst hB
      exact hnewbox b b' x _ e hx hB'
  · intro b1 b2 g B1 B2 g1 g2 e1 e2 l1 l2
    have look : ∀ b B, (effsOn ef st).box b = some B → ∀ b', rlk (θ ++ ν) b = some b' → lkp bxs' b' = some B := by
      intro b B hB b' e
      rw [kbox, e] at hB
      obtain ⟨B', hB'⟩ := hin b' b ((okMap_iff hκ).2 e)
      simp only [hB', Option.some.injEq] at hB
      rw [hB', hB]
    have mix : ∀ b1 b2 B1 B2, ρ2 b1 = some (some g) → ρ2 b2 = some (some g) → (effsOn ef st).box b1 = some B1 → (effsOn ef st).box b2 = some B2 → B1.live = true → B2.live = true → rlk (θ ++ ν) b1 = none → ∀ b', rlk (θ ++ ν) b2 = some b' → False := by
      intro b1 b2 B1 B2 g1 g2 e1 e2 l1 l2 k1 b' k2
      rw [hρ2, k1] at g1
      rw [hρ2, k2] at g2
      rw [kbox, k1] at e1
      rcases hst.own g ⟨b', g2⟩ with y | y
      · exact hoff b1 g B1 k1 g1 e1 l1 y
      · have := (h.block_lt g1).1; omega
    cases k1 : rlk (θ ++ ν) b1 with
    | none =>
      cases k2 : rlk (θ ++ ν) b2 with
      | none =>
        rw [hρ2, k1] at g1; rw [hρ2, k2] at g2; rw [kbox, k1] at e1; rw [kbox, k2] at e2
        exact h.inj b1 b2 g B1 B2 g1 g2 e1 e2 l1 l2
      | some b' => exact (mix b1 b2 B1 B2 g1 g2 e1 e2 l1 l2 k1 b' k2).elim
    | some b1' =>
      cases k2 : rlk (θ ++ ν) b2 with
      | none => exact (mix b2 b1 B2 B1 g2 g1 e2 e1 l2 l1 k2 b1' k1).elim
      | some b2' =>
        have q1 := look b1 B1 e1 b1' k1
        have q2 := look b2 B2 e2 b2' k2
        rw [hρ2, k1] at g1; rw [hρ2, k2] at g2
        have := hbox.inj b1' b2' g B1 B2 g1 g2 q1 q2 l1 l2
        subst this
        have z1 := (okMap_iff hκ).2 k1
        have z2 := (okMap_iff hκ).2 k2
        rw [z1] at z2
        exact Option.some.inj z2
  · have hr3 := ren2_fwd hfwd hr2 hrv
    rcases hF with hF | hF
    · exact hr3.mono (Keeps.refl _ _) (hall hF) fun _ _ x => x
    · simp only [flatB, Bool.and_eq_true] at hF
      exact ren2_fwd hfwd hr2 (flatr_LR hF.1 hrv)

theorem effsOn_fro_box : ∀ (es : List Eff) (st : St) (b : Nat), (∀ e ∈ es, e.id ≠ b) → (effsOn es st).box b = st.box b := fun es st b h => effsOn_other es st h

theorem lend_sim {C : Ctx} {st : St} {a : Act} {w : World} {ρ : Rho} {im : Im} {θ0 ν0 θ ν : List (Nat × Nat)} {f0 f : FuncId} {vs args : List PV} {us : List Value} {bxs : List (Nat × Box)} {es : List Eff} {l : Acc} (h : Rel' C st a w ρ im) (hv : LRL w im ρ vs us)
    (hx : lendCall θ0 ν0 f0 vs st.box = some (.callB f args bxs es θ ν, l)) :
    f0 = f ∧ ∃ im1, (∀ g j, im1 g j → ∃ u, w.cell? ⟨g, j, none⟩ = some u) ∧ Boxes (Own (rhoC θ ρ)) w im1 (rhoC θ ρ) (lkp bxs) ∧ LRL w im1 (rhoC θ ρ) args us ∧
      ∀ r bxs' r' ef, land θ ν bxs' r = some (r', ef) → ∀ w' ρ' im' v, Step (rhoC θ ρ) im1 w ρ' im' w' → (∀ g j, im' g j → ∃ u, w'.cell? ⟨g, j, none⟩ = some u) → Boxes (Own ρ') w' im' ρ' (lkp bxs') →
        (∀ b x x', rhoC θ ρ b = some x → ρ' b = some x' → x' = x) → LR w' im' ρ' r v → ∃ ρ2 im2, Rel' C (effsOn ((if flatB r bxs' then [] else es) ++ ef) st) a w' ρ2 im2 ∧ LR w' im2 ρ2 r' v := by
  obtain ⟨⟨ys, es0⟩, _, _, e1, e2, _⟩ := M.bind_some hx
  obtain ⟨bxs0, _, _, e3, e4, _⟩ := M.bind_some e2
  obtain ⟨_, _, _, e5, e6, _⟩ := M.bind_some e4
  obtain ⟨_, _, _, e7, e8, _⟩ := M.bind_some e6
  obtain ⟨c1, _⟩ := M.ok_some e7
  obtain ⟨e9, _⟩ := M.pure_some e8
  cases e9
  simp only [Bool.and_eq_true, List.all_eq_true, Option.isNone_iff_eq_none, Bool.not_eq_true'] at c1
  obtain ⟨hκ, hes⟩ := c1
  have hθ : ∀ b b', rlk θ0 b = some b' → lkp θ0 b' = some b := by
    intro b b' e
    have hm := rlk_mem e
    obtain ⟨c, hc⟩ := mem_lkp hm
    have := (okMap_mem hκ (List.mem_append_left ν0 hm)).1
    rw [lkp_append, hc] at this
    rw [hc]; exact this
  obtain ⟨k1, k2⟩ := lentBoxes_spec e3
  have k3 := freeIds_spec e5
  obtain ⟨im1, g1, r1⟩ := lendL_sim hθ h (fun _ => rfl) hv e1
  have hbx : ∀ b b', rlk (θ0 ++ ν0) b = some b' → (effsOn es0 st).box b = st.box b := by
    intro b b' e
    refine effsOn_other es0 st fun x hx hid => ?_
    have := (hes x hx).1
    rw [hid, e] at this; cases this
  have hbθ : ∀ p ∈ θ0, (effsOn es0 st).box p.2 = st.box p.2 := fun p hp => hbx _ _ (okMap_mem hκ (List.mem_append_left ν0 hp)).2
  have hbν : ∀ p ∈ ν0, (effsOn es0 st).box p.2 = st.box p.2 := fun p hp => hbx _ _ (okMap_mem hκ (List.mem_append_right θ0 hp)).2
  refine ⟨rfl, im1, g1.rel.imc, ⟨?_, ?_, ?_⟩, r1, ?_⟩
  · intro b'
    rw [k1 b']
    unfold rhoC
    cases e : lkp θ0 b' with
    | none => simp
    | some b => simpa using h.rho b
  · intro b' x B hx hB
    rw [k1 b'] at hB
    unfold rhoC at hx
    cases e : lkp θ0 b' with
    | none => rw [e] at hx; cases hx
    | some b =>
      rw [e] at hx hB
      simp only [Option.bind_some] at hx hB
      have hb := g1.rel.box b x B hx (by rw [hbθ _ (lkp_mem e)]; exact hB)
      obtain ⟨B1, hB1, _, hext, _⟩ := k2 _ (lkp_mem e)
      simp only [hB, Option.some.injEq] at hB1
      subst hB1
      cases x with
      | none => exact hb
      | some g =>
        obtain ⟨h1, h2, h3, h4, cur, us, rest, h5, h6, h7, h8, h9, h10, h11⟩ := hb
        have hr := Box.ext_rep hext h7 h8
        exact ⟨⟨b', by simp [rhoC, e, hx]⟩, h2, h3, h4, cur, us, rest, h5, h6, hr.toLRL, fun _ => hr, h9, h10, h11⟩
  · intro b1 b2 g B1 B2 g1' g2' e1' e2' l1 l2
    rw [k1 b1] at e1'
    rw [k1 b2] at e2'
    unfold rhoC at g1' g2'
    cases z1 : lkp θ0 b1 with
    | none => rw [z1] at g1'; cases g1'
    | some c1 =>
      cases z2 : lkp θ0 b2 with
      | none => rw [z2] at g2'; cases g2'
      | some c2 =>
        rw [z1] at g1' e1'
        rw [z2] at g2' e2'
        simp only [Option.bind_some] at g1' g2' e1' e2'
        have := h.inj c1 c2 g B1 B2 g1' g2' e1' e2' l1 l2
        subst this
        have y1 := (okMap_mem hκ (List.mem_append_left ν0 (lkp_mem z1))).2
        have y2 := (okMap_mem hκ (List.mem_append_left ν0 (lkp_mem z2))).2
        rw [y1] at y2
        exact Option.some.inj y2
  · intro r bxs' r' ef hl w' ρ' im' v hst himc hbox hstay hrv
    rw [effsOn_append]
    by_cases hfl : flatB r bxs' = true
    · rw [if_pos hfl]
      exact land_sim h g1.im hκ (fun p hp => let ⟨B, hB, hl, _⟩ := k2 p hp; ⟨B, hB, hl⟩) k3 hl hst himc hbox hstay hrv (.inr hfl)
    · rw [if_neg hfl]
      exact land_sim g1.rel (fun _ _ x => x) hκ (fun p hp => let ⟨B, hB, hl, _⟩ := k2 p hp; ⟨B, by rw [hbθ p hp]; exact hB, hl⟩) (fun p hp => by rw [hbν p hp]; exact k3 p hp) hl hst himc hbox hstay hrv (.inl fun _ _ x => x)

end Go.Vl
