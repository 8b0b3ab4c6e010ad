/-
  Values that go out of the function.
-/
import Derived.Test.YtkajnimlfehmeaaUE
set_option linter.unusedSimpArgs false
set_option linter.unusedVariables false
namespace Go.Vl
open Go.RowKit

def SoftEq (bx : Bx) (st : St) : Prop := ∀ b, (bx b).map Box.soft = (st.box b).map Box.soft

theorem SoftEq.get {bx : Bx} {st : St} (h : SoftEq bx st) {b : Nat} {B : Box} (hb : bx b = some B) : ∃ B', st.box b = some B' ∧ B'.soft = B.soft := by
  have := h b
  rw [hb] at this
  cases hs : st.box b with
  | none => rw [hs] at this; cases this
  | some B' => rw [hs] at this; exact ⟨B', rfl, by simpa using this.symm⟩

theorem soft_eq {B B' : Box} (h : B'.soft = B.soft) : B'.els = B.els ∧ B'.esz = B.esz ∧ B'.ety = B.ety ∧ B'.arr = B.arr := by
  simp only [Box.soft, SB.mk.injEq] at h
  exact h

theorem fro_on {st : St} {b n : Nat} {B : Box} (hB : st.box b = some B) : (Eff.fro b n).on st = st.setBox b { B with fro := max B.fro n, live := B.live && true } := by simp [Eff.on, hB]

theorem softEq_fro {bx : Bx} {st : St} (h : SoftEq bx st) (b n : Nat) : SoftEq bx ((Eff.fro b n).on st) := by
  intro b'
  rw [h b']
  simp only [Eff.on]
  split
  · rename_i B hB
    simp only [St.setBox, upd]
    split
    · rename_i e; subst e; rw [hB]; rfl
    · rfl
  · rfl

theorem none_fro {st : St} (b n b' : Nat) (h : st.box b' = none) : ((Eff.fro b n).on st).box b' = none := by
  simp only [Eff.on]
  split
  · rename_i B hB
    simp only [St.setBox, upd]
    split
    · rename_i e; subst e; rw [h] at hB; cases hB
    · exact h
  · exact h

theorem effsOn_append (xs ys : List Eff) (st : St) : effsOn (xs ++ ys) st = effsOn ys (effsOn xs st) := by simp [effsOn]
theorem effsOn_nil (st : St) : effsOn [] st = st := rfl
theorem effsOn_cons (e : Eff) (es : List Eff) (st : St) : effsOn (e :: es) st = effsOn es (e.on st) := rfl

/-- What going out leaves. -/
structure Gone (C : Ctx) (st st' : St) (a : Act) (w : World) (ρ : Rho) (im im' : Im) (bx : Bx) : Prop where
  rel : Rel' C st' a w ρ im'
  im : ∀ g j, im g j → im' g j
  soft : SoftEq bx st'
  no : ∀ b, st.box b = none → st'.box b = none
  var : st'.var = st.var
  out : st'.out = st.out
  yl : st'.yl = st.yl

theorem Gone.refl {C : Ctx} {st : St} {a : Act} {w : World} {ρ : Rho} {im : Im} {bx : Bx} (h : Rel' C st a w ρ im) (hs : SoftEq bx st) : Gone C st st a w ρ im im bx :=
  ⟨h, fun _ _ x => x, hs, fun _ x => x, rfl, rfl, rfl⟩
theorem Gone.trans {C : Ctx} {st st' st'' : St} {a : Act} {w : World} {ρ : Rho} {im im' im'' : Im} {bx : Bx} (h : Gone C st st' a w ρ im im' bx) (k : Gone C st' st'' a w ρ im' im'' bx) :
    Gone C st st'' a w ρ im im'' bx :=
  ⟨k.rel, fun g j x => k.im g j (h.im g j x), k.soft, fun b x => k.no b (h.no b x), k.var.trans h.var, k.out.trans h.out, k.yl.trans h.yl⟩

theorem Gone.fro {C : Ctx} {st : St} {a : Act} {w : World} {ρ : Rho} {im : Im} {bx : Bx} (h : Rel' C st a w ρ im) (hs : SoftEq bx st) {b : Nat} {x : Option Nat} {B : Box} {n : Nat}
    (hρ : ρ b = some x) (hB : st.box b = some B) (hn : n ≤ B.els.length) : Gone C st ((Eff.fro b n).on st) a w ρ im (holdIm im x (n * B.esz)) bx := by
  have h1 := h.hold hρ hB hn true (.inl rfl)
  rw [← fro_on hB] at h1
  exact ⟨h1, fun _ _ y => .inl y, softEq_fro hs b n, fun b' => none_fro b n b', by rw [fro_on hB]; rfl, by rw [fro_on hB]; rfl, by rw [fro_on hB]; rfl⟩

section
variable {C : Ctx} {a : Act} {w : World} {ρ : Rho} {bx : Bx}

theorem rep_plain {st : St} {im : Im} {v : PV} {u : Value} (h : Rel' C st a w ρ im) (hs : SoftEq bx st) (hv : Rep w im v u) :
    ∃ im', Gone C st (effsOn [] st) a w ρ im im' bx ∧ Rep w im' v u := ⟨im, Gone.refl h hs, hv⟩

/-- A part of a box, held. -/
theorem slc_of_bs {st : St} {im : Im} (h : Rel' C st a w ρ im) {b esz off len : Nat} {u : Value} {B : Box} (hv : LR w im ρ (.bs b esz off len) u) (hB : st.box b = some B) (ha : B.arr = true) (he : B.esz = esz)
    (hn : off + len ≤ B.els.length) : ∃ x, ρ b = some x ∧ Rep w (holdIm im x ((off + len) * B.esz)) (.slc ((B.els.drop off).take len)) u := by
  rcases hv.bs_inv with ⟨e, ⟨x, rfl⟩, rfl, rfl⟩ | ⟨g, cap, cur, e, hg, rfl, ho, hc, hl, hm⟩
  · refine ⟨none, e, ?_⟩
    simp only [List.drop_zero, List.take_zero]
    cases x with
    | none => exact .slcNil 0 (Nat.zero_le _)
    | some p => exact .slc [] p.1 p.2 0 0 0 [] rfl (Nat.zero_le _) (by simp) (by simp) (by simp) .nil (Nat.le_refl _)
  · refine ⟨some g, hg, ?_⟩
    obtain ⟨h1, h2, h3, h4, cur', us, rest, h5, h6, h7, h8, h9, h10, h11⟩ := h.box b _ B hg hB
    rw [ho] at h5; cases h5
    subst he
    have hul : us.length = B.els.length * B.esz := by rw [← h7.length, flat_length h4]
    have hmul : off * B.esz + len * B.esz ≤ B.els.length * B.esz := by rw [← Nat.add_mul]; exact Nat.mul_le_mul_right _ hn
    have hsum : (off + len) * B.esz = off * B.esz + len * B.esz := Nat.add_mul _ _ _
    have hr := ((h8 ha).drop (off * B.esz)).take (len * B.esz)
    rw [flat_drop off h4, flat_take len (fun e he => h4 e (List.mem_of_mem_drop he))] at hr
    refine .slc _ g (off * B.esz) len cap B.esz _ (by simp; omega) (by omega) (fun e he => h4 e (List.mem_of_mem_drop (List.mem_of_mem_take he))) ?_ ?_ (hr.mono (fun _ _ _ => rfl) fun _ _ y => .inl y) hl
    · intro j hj
      exact .inr ⟨rfl, by simp at hj; omega⟩
    · intro j hj
      rw [cell_of_row _ _ _ _ _ _ ho, ← Array.getElem?_toList, h6, List.getElem?_append_left (by simp at hj; omega)]
      simp only [List.getElem?_take, List.getElem?_drop]
      rw [if_pos (by simp at hj; omega)]

theorem esc0_sim {st : St} {im : Im} (h : Rel' C st a w ρ im) (hs : SoftEq bx st) {v y : PV} {u : Value} {es : List Eff} {l : Acc} (hv : LR w im ρ v u) (he : esc0 v bx = some ((y, es), l)) :
    ∃ im', Gone C st (effsOn es st) a w ρ im im' bx ∧ Rep w im' y u := by
  have plain : ∀ v : PV, LR w im ρ v u → (match v with | .bp _ _ _ _ | .bs _ _ _ _ | .fn _ _ _ | .undef | .agg _ | .tup _ => False | _ => True) → Rep w im v u := by
    intro v hv hh
    cases hv <;> first | assumption | exact hh.elim
  unfold esc0 at he
  split at he
  · rename_i b esz off len
    obtain ⟨S, l1, l2, e1, e2, _⟩ := M.bind_some he
    obtain ⟨B0, hb0, rfl, _⟩ := M.soft_some e1
    obtain ⟨_, l3, l4, e3, e4, _⟩ := M.bind_some e2
    obtain ⟨hc, _⟩ := M.ok_some e3
    obtain ⟨e5, _⟩ := M.pure_some e4
    cases e5
    obtain ⟨B, hB, hsoft⟩ := hs.get hb0
    obtain ⟨s1, s2, s3, s4⟩ := soft_eq hsoft
    simp only [Box.soft, Bool.and_eq_true, beq_iff_eq, decide_eq_true_eq] at hc
    obtain ⟨x, hx, hrep⟩ := slc_of_bs h hv hB (by rw [s4]; exact hc.1.1) (by rw [s2]; exact hc.1.2) (by rw [s1]; exact of_decide_eq_true hc.2)
    refine ⟨_, Gone.fro h hs hx hB (by rw [s1]; exact of_decide_eq_true hc.2), ?_⟩
    simpa [Box.soft, s1] using hrep
  · obtain ⟨e5, _⟩ := M.pure_some he; cases e5
    have := hv.nilS_inv; subst this
    exact rep_plain h hs (.slcNil 0 (Nat.zero_le _))
  · obtain ⟨e5, _⟩ := M.pure_some he; cases e5
    obtain ⟨p, q, rfl, hp, hq⟩ := hv.fn_inv
    have e1 := hp.nil_inv; have e2 := hq.nil_inv; subst e1; subst e2
    exact rep_plain h hs (.fn _ [] [] [] [] .nil .nil)
  · cases he
  · cases he
  · cases he
  · cases he
  · cases he
  · rename_i n1 n2 n3 n4 n5 n6 n7 n8
    obtain ⟨e5, _⟩ := M.pure_some he; cases e5
    refine rep_plain h hs (plain _ hv ?_)
    cases v with
    | bp b e i o => exact n5 _ _ _ _ rfl
    | bs b e i o => exact n1 _ _ _ _ rfl
    | fn f x y => exact n4 _ _ _ rfl
    | undef => exact n6 rfl
    | tup x => exact n7 _ rfl
    | agg x => exact n8 _ rfl
    | _ => trivial

theorem escL_sim : ∀ {st : St} {im : Im} (_ : Rel' C st a w ρ im) (_ : SoftEq bx st) {vs ys : List PV} {us : List Value} {es : List Eff} {l : Acc} (_ : LRL w im ρ vs us) (_ : escL vs bx = some ((ys, es), l)),
    ∃ im', Gone C st (effsOn es st) a w ρ im im' bx ∧ RepL w im' ys us := by
  intro st im h hs vs
  induction vs generalizing st im with
  | nil =>
    intro ys us es l hv he
    obtain ⟨e, _⟩ := M.pure_some he; cases e
    cases hv.nil_inv
    exact ⟨im, Gone.refl h hs, .nil⟩
  | cons v vs ih =>
    intro ys us es l hv he
    obtain ⟨u, us', rfl, h1, h2⟩ := hv.cons_inv
    obtain ⟨⟨y, e1⟩, l1, l2, k1, k2, _⟩ := M.bind_some he
    obtain ⟨⟨ys', e2⟩, l3, l4, k3, k4, _⟩ := M.bind_some k2
    obtain ⟨k5, _⟩ := M.pure_some k4; cases k5
    obtain ⟨im1, g1, r1⟩ := esc0_sim h hs h1 k1
    obtain ⟨im2, g2, r2⟩ := ih g1.rel g1.soft (h2.mono (Keeps.refl _ _) g1.im fun _ _ x => x) k3
    refine ⟨im2, by rw [effsOn_append]; exact g1.trans g2, .cons _ _ _ _ (r1.mono (fun _ _ _ => rfl) g2.im) r2⟩

theorem escC_sim {st : St} {im : Im} (h : Rel' C st a w ρ im) (hs : SoftEq bx st) {v y : PV} {u : Value} {es : List Eff} {l : Acc} (hv : LR w im ρ v u) (he : escC v bx = some ((y, es), l)) :
    ∃ im', Gone C st (effsOn es st) a w ρ im im' bx ∧ Rep w im' y u := by
  unfold escC at he
  split at he
  · rename_i b esz i off
    obtain ⟨S, l1, l2, e1, e2, _⟩ := M.bind_some he
    obtain ⟨B0, hb0, rfl, _⟩ := M.soft_some e1
    obtain ⟨_, l3, l4, e3, e4, _⟩ := M.bind_some e2
    obtain ⟨hc, _⟩ := M.ok_some e3
    obtain ⟨e, l5, l6, e5, e6, _⟩ := M.bind_some e4
    obtain ⟨hel, _⟩ := M.ofOpt_some e5
    obtain ⟨⟨ys, es'⟩, l7, l8, e7, e8, _⟩ := M.bind_some e6
    obtain ⟨e9, _⟩ := M.pure_some e8
    cases e9
    obtain ⟨B, hB, hsoft⟩ := hs.get hb0
    obtain ⟨s1, s2, s3, s4⟩ := soft_eq hsoft
    simp only [Box.soft, beq_iff_eq] at hc hel
    rw [← s1] at hel
    obtain ⟨g, hg, rfl⟩ := hv.bp_inv
    have hlt : i < B.els.length := (List.getElem?_eq_some_iff.1 hel).1
    obtain ⟨hez, us, hr, _, hcell⟩ := h.seen hg hB hel
    have g1 := Gone.fro h hs hg hB (n := i + 1) hlt
    obtain ⟨im2, g2, r2⟩ := escL_sim g1.rel g1.soft ((hr.drop off).mono (Keeps.refl _ _) g1.im fun _ _ x => x) e7
    refine ⟨im2, by rw [effsOn_cons]; exact g1.trans g2, .rp _ _ _ (us.drop off) ?_ ?_ r2⟩
    · intro j hj
      have hul := hr.length
      refine g2.im _ _ (.inr ⟨rfl, ?_⟩)
      rw [← hc, ← s2, Nat.succ_mul]
      simp at hj
      omega
    · intro j hj
      have hul := hr.length
      simp at hj
      have := hcell (off + j) (by omega)
      rw [← hc, ← s2, Nat.add_assoc, this, List.getElem?_drop]
  · exact esc0_sim h hs hv he

theorem escCL_sim : ∀ {st : St} {im : Im} (_ : Rel' C st a w ρ im) (_ : SoftEq bx st) {vs ys : List PV} {us : List Value} {es : List Eff} {l : Acc} (_ : LRL w im ρ vs us) (_ : escCL vs bx = some ((ys, es), l)),
    ∃ im', Gone C st (effsOn es st) a w ρ im im' bx ∧ RepL w im' ys us := by
  intro st im h hs vs
  induction vs generalizing st im with
  | nil =>
    intro ys us es l hv he
    obtain ⟨e, _⟩ := M.pure_some he; cases e
    cases hv.nil_inv
    exact ⟨im, Gone.refl h hs, .nil⟩
  | cons v vs ih =>
    intro ys us es l hv he
    obtain ⟨u, us', rfl, h1, h2⟩ := hv.cons_inv
    obtain ⟨⟨y, e1⟩, l1, l2, k1, k2, _⟩ := M.bind_some he
    obtain ⟨⟨ys', e2⟩, l3, l4, k3, k4, _⟩ := M.bind_some k2
    obtain ⟨k5, _⟩ := M.pure_some k4; cases k5
    obtain ⟨im1, g1, r1⟩ := escC_sim h hs h1 k1
    obtain ⟨im2, g2, r2⟩ := ih g1.rel g1.soft (h2.mono (Keeps.refl _ _) g1.im fun _ _ x => x) k3
    refine ⟨im2, by rw [effsOn_append]; exact g1.trans g2, .cons _ _ _ _ (r1.mono (fun _ _ _ => rfl) g2.im) r2⟩

theorem esc1_sim {st : St} {im : Im} (h : Rel' C st a w ρ im) (hs : SoftEq bx st) {v y : PV} {u : Value} {es : List Eff} {l : Acc} (hv : LR w im ρ v u) (he : esc1 v bx = some ((y, es), l)) :
    ∃ im', Gone C st (effsOn es st) a w ρ im im' bx ∧ Rep w im' y u := by
  unfold esc1 at he
  split at he
  · obtain ⟨⟨ys, es'⟩, l1, l2, k1, k2, _⟩ := M.bind_some he
    obtain ⟨k3, _⟩ := M.pure_some k2; cases k3
    obtain ⟨us, rfl, hr⟩ := hv.agg_inv
    obtain ⟨im1, g1, r1⟩ := escL_sim h hs hr k1
    exact ⟨im1, g1, .agg _ _ r1⟩
  · obtain ⟨⟨ys, e1⟩, l1, l2, k1, k2, _⟩ := M.bind_some he
    obtain ⟨⟨ys', e2⟩, l3, l4, k3, k4, _⟩ := M.bind_some k2
    obtain ⟨k5, _⟩ := M.pure_some k4; cases k5
    obtain ⟨p, q, rfl, hp, hq⟩ := hv.fn_inv
    obtain ⟨im1, g1, r1⟩ := escCL_sim h hs hp k1
    obtain ⟨im2, g2, r2⟩ := escCL_sim g1.rel g1.soft (hq.mono (Keeps.refl _ _) g1.im fun _ _ x => x) k3
    exact ⟨im2, by rw [effsOn_append]; exact g1.trans g2, .fn _ _ _ _ _ (r1.mono (fun _ _ _ => rfl) g2.im) r2⟩
  · exact escC_sim h hs hv he

theorem esc1L_sim : ∀ {st : St} {im : Im} (_ : Rel' C st a w ρ im) (_ : SoftEq bx st) {vs ys : List PV} {us : List Value} {es : List Eff} {l : Acc} (_ : LRL w im ρ vs us) (_ : esc1L vs bx = some ((ys, es), l)),
    ∃ im', Gone C st (effsOn es st) a w ρ im im' bx ∧ RepL w im' ys us := by
  intro st im h hs vs
  induction vs generalizing st im with
  | nil =>
    intro ys us es l hv he
    obtain ⟨e, _⟩ := M.pure_some he; cases e
    cases hv.nil_inv
    exact ⟨im, Gone.refl h hs, .nil⟩
  | cons v vs ih =>
    intro ys us es l hv he
    obtain ⟨u, us', rfl, h1, h2⟩ := hv.cons_inv
    obtain ⟨⟨y, e1⟩, l1, l2, k1, k2, _⟩ := M.bind_some he
    obtain ⟨⟨ys', e2⟩, l3, l4, k3, k4, _⟩ := M.bind_some k2
    obtain ⟨k5, _⟩ := M.pure_some k4; cases k5
    obtain ⟨im1, g1, r1⟩ := esc1_sim h hs h1 k1
    obtain ⟨im2, g2, r2⟩ := ih g1.rel g1.soft (h2.mono (Keeps.refl _ _) g1.im fun _ _ x => x) k3
    refine ⟨im2, by rw [effsOn_append]; exact g1.trans g2, .cons _ _ _ _ (r1.mono (fun _ _ _ => rfl) g2.im) r2⟩

end
end Go.Vl
