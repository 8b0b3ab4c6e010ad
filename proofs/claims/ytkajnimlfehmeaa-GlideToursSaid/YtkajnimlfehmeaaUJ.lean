/-
  All operations together.
-/
import Derived.Test.YtkajnimlfehmeaaUI2
set_option linter.unusedSimpArgs false
set_option linter.unusedVariables false
namespace Go.Vl
open Go.RowKit

theorem Rel'.append_nil {C : Ctx} {st : St} {a : Act} {w : World} {ρ : Rho} {im : Im} (h : Rel' C st a w ρ im) {id : Nat} (hidL : id < LENT) {T ty E : TypeId} {i : TypeInfo} {z : Value} {xs : List PV} {x : Value}
    (ht : C.P.underlying T = some (.slice E)) (hi : C.P.info? E = some i) (hz : i.zero = some z) (hs : 0 < i.size) (hzs : z.cells.size = i.size)
    (hx : Rep w im (.slc xs) x) (hxz : ∀ e ∈ xs, e.cells.length = i.size) (hokx : (xs.flatMap PV.cells).all PV.okCell = true)
    (hid : st.box id = none) (hby : xs.length * i.bytes ≤ 140737488355328) (h63 : xs.length ≤ maxLen) :
    ∃ v' w' ρ' im', (Builtin.append_ #[T, T] ty #[.slice none 0 0, x]).run C.P w = .ok v' w' ∧
      Rel' C (st.setBox id { els := xs, esz := i.size, ety := E, fro := 0, live := true, arr := true }) a w' ρ' im' ∧
      LR w' im' ρ' (.bs id i.size 0 xs.length) v' := by
  have hsmall : ((xs.length : Nat) : Int) ≤ 9223372036854775807 := by simp only [maxLen] at h63; omega
  have same : xs = [] → ∃ ρ' im', Rel' C (st.setBox id { els := xs, esz := i.size, ety := E, fro := 0, live := true, arr := true }) a w ρ' im' ∧ LR w im' ρ' (.bs id i.size 0 xs.length) (.slice none 0 0) := by
    rintro rfl
    obtain ⟨h3, h4⟩ := h.addBox ⟨.refl _ _ _, Keeps.refl _ _, fun _ x => .inl x, fun _ _ x => x, fun _ _ x => .inl x⟩ h hidL hid { els := [], esz := i.size, ety := E, fro := 0, live := true, arr := true } none (by intro g e; cases e) ⟨rfl, rfl, rfl, hs⟩ (by intro b' g B' e; cases e)
    exact ⟨_, _, h3, .bsNil _ _ none (upd_same _ _ _)⟩
  rcases hx.slc_cells with ⟨rfl, cx, rfl⟩ | ⟨Ax, capx, vsx, szx, rfl, hmx, hzx, hcx, hrx, hcapx⟩
  · obtain ⟨ρ', im', e1, e2⟩ := same rfl
    exact ⟨_, w, ρ', im', run_append_x_nil w T T ty E i ht hi E ht none 0 0 (Nat.le_refl _) cx, e1, e2⟩
  · have hvl : vsx.length = xs.length * i.size := by rw [← hrx.length, flat_length hxz]
    by_cases hm0 : xs.length = 0
    · obtain ⟨ρ', im', e1, e2⟩ := same (List.length_eq_zero_iff.1 hm0)
      refine ⟨_, w, ρ', im', ?_, e1, e2⟩
      rw [hm0]
      exact run_append_none w T ty E i ht hi _ _ _
    · have hrun := run_append_nil w T ty E i z ht hi hz Ax xs.length capx vsx hvl hcx (by omega) (by omega) (by omega)
      have hcapg := grownCap_ge w xs.length 0 E
      have hcapm := grownCap_le_maxLen w xs.length 0 E hmx
      have hzc : (Builtin.zeroCells z.cells (grownCap w xs.length 0 E - xs.length)).size = (grownCap w xs.length 0 E - xs.length) * i.size := by rw [size_zeroCells, hzs]
      generalize grownCap w xs.length 0 E = cap at *
      generalize Builtin.zeroCells z.cells (cap - xs.length) = zc at *
      have harr : vsx.toArray ++ zc = (vsx ++ zc.toList).toArray := by apply Array.ext'; simp
      rw [harr] at hrun
      have hmul : cap * i.size = xs.length * i.size + (cap - xs.length) * i.size := by rw [← Nat.add_mul]; congr 1; omega
      obtain ⟨ρ', im', e1, e2⟩ := h.append_new (els := xs) (E := E) (us := vsx) (rest := zc.toList) hidL hid hs hxz hrx hokx 0 cap (Nat.zero_le _) hcapg (by simp; omega) hcapm
      exact ⟨_, _, ρ', im', hrun, e1, e2⟩

section
variable {C : Ctx} {st : St} {a : Act} {w : World} {ρ : Rho} {im : Im} {o : Oper}

theorem kill_on {st : St} {b : Nat} {B : Box} (hB : st.box b = some B) : (Eff.kill b).on st = st.setBox b { B with fro := max B.fro B.els.length, live := B.live && false } := by simp [Eff.on, hB]

theorem does_append {id : Nat} (hidL : id < LENT) {T T2 ty : TypeId} {s x r : PV} {u ux : Value} {es : List Eff} {l : Acc} {sem : Sem Next} (h : Rel' C st a w ρ im) (hs : LR w im ρ s u) (hx : LR w im ρ x ux)
    (hrun : ∀ v w', (Builtin.append_ #[T, T2] ty #[u, ux]).run C.P w = .ok v w' → sem.run C.P w = .ok (.value v) w') (he : appendPV C.P id T T2 s x st.box = some (.done r es, l)) : Does C (effsOn es st) a w sem r := by
  unfold appendPV at he
  obtain ⟨_, _, _, e1, e2, _⟩ := M.bind_some he
  obtain ⟨c1, _⟩ := M.ok_some e1
  obtain ⟨E, _, _, e3, e4, _⟩ := M.bind_some e2
  obtain ⟨c2, _⟩ := M.ofOpt_some e3
  obtain ⟨q, _, _, e5, e6, _⟩ := M.bind_some e4
  obtain ⟨c3, _⟩ := M.ofOpt_some e5
  obtain ⟨z, _, _, e7, e8, _⟩ := M.bind_some e6
  obtain ⟨c4, _⟩ := M.ofOpt_some e7
  obtain ⟨_, _, _, e9, e10, _⟩ := M.bind_some e8
  obtain ⟨c5, _⟩ := M.ok_some e9
  obtain ⟨n, _, _, e11, e12, _⟩ := M.bind_some e10
  obtain ⟨rfl, _⟩ := M.hard_some e11
  obtain ⟨_, _, _, e13, e14, _⟩ := M.bind_some e12
  obtain ⟨c6, _⟩ := M.ok_some e13
  obtain ⟨⟨y, fs⟩, _, _, e15, e16, _⟩ := M.bind_some e14
  simp only [beq_iff_eq, Bool.and_eq_true, decide_eq_true_eq, Option.isNone_iff_eq_none] at c1 c5 c6
  subst c1
  obtain ⟨i, hi, hi1, hi2⟩ := tyInfo_inv c3
  obtain ⟨i', zv, hz1, hz2, hz3⟩ := zeroPV_inv c4
  rw [hi] at hz1; cases hz1
  have hT := tyElem_inv c2
  have hzs : zv.cells.size = i.size := by
    have hr := constPV_rep (w := w) (im := im) hz3
    rw [hi1, ← c5.1]
    have key : ∀ zv z, Rep w im z zv → zv.cells.size = z.cells.length := by
      intro zv z hr
      cases hr with
      | agg cs vs h => simp [Value.cells, PV.cells, h.length]
      | _ => rfl
    exact key _ _ hr
  obtain ⟨im1, g1, r1⟩ := esc0_sim h (fun _ => rfl) hx e15
  cases y with
  | slc xs =>
    obtain ⟨_, _, _, e17, e18, _⟩ := M.bind_some e16
    obtain ⟨c7, _⟩ := M.ok_some e17
    simp only [List.all_eq_true, Bool.and_eq_true, beq_iff_eq] at c7
    have hokx := okCells_flat fun e he => (c7 e he).2
    cases s with
    | nilS =>
      obtain ⟨_, _, _, e19, e20, _⟩ := M.bind_some e18
      obtain ⟨c8, _⟩ := M.ok_some e19
      obtain ⟨e21, _⟩ := M.pure_some e20
      cases e21
      simp only [Bool.and_eq_true, decide_eq_true_eq] at c8
      have hu := hs.nilS_inv
      subst hu
      obtain ⟨v', w', ρ', im', k1, k2, k3⟩ := g1.rel.append_nil hidL (ty := ty) hT hi hz2 (by omega) hzs r1 (fun e he => by rw [hi1]; exact (c7 e he).1) hokx (g1.no id c6) (by rw [hi2]; exact c8.1) c8.2
      rw [hi1] at k2 k3
      refine ⟨v', w', ρ', im', .inl (hrun _ _ k1), ?_, k3⟩
      rw [effsOn_append]
      simpa [effsOn_cons, effsOn_nil, Eff.on] using k2
    | bs b esz off len =>
      obtain ⟨Bo, _, _, e19, e20, _⟩ := M.bind_some e18
      obtain ⟨rfl, _⟩ := M.hard_some e19
      obtain ⟨B, _, _, e21, e22, _⟩ := M.bind_some e20
      obtain ⟨hB, _⟩ := M.ofOpt_some e21
      obtain ⟨_, _, _, e23, e24, _⟩ := M.bind_some e22
      obtain ⟨c8, _⟩ := M.ok_some e23
      obtain ⟨e25, _⟩ := M.pure_some e24
      cases e25
      simp only [Bool.and_eq_true, decide_eq_true_eq, beq_iff_eq, List.all_eq_true, bne_iff_ne] at c8
      obtain ⟨⟨⟨⟨⟨⟨⟨⟨⟨⟨d0, d1⟩, d2⟩, d3⟩, d4⟩, d5⟩, d6⟩, d7⟩, d8⟩, d9⟩, d10⟩ := c8
      subst d3; subst d4; subst d7
      have hB' : (effsOn fs st).box b = some B := by rw [effsOn_other _ _ d0]; exact hB
      have hs' : LR w im1 ρ (.bs b B.esz 0 B.els.length) u := by
        rw [d6, ← d5]; exact hs.mono (Keeps.refl _ _) g1.im fun _ _ x => x
      obtain ⟨v', w', ρ', im', k1, k2, k3⟩ := g1.rel.append (ty := ty) hT hi hz2 (by omega) hzs hB' d1 d2 hs' r1 (fun e he => by rw [d6]; exact (c7 e he).1) d8 hokx hidL (g1.no id c6) (by rw [hi2]; exact d9) d10
      refine ⟨v', w', ρ', im', .inl (hrun _ _ k1), ?_, ?_⟩
      · rw [effsOn_append, effsOn_cons, effsOn_cons, effsOn_nil, kill_on hB']
        simpa [Eff.on, d6] using k2
      · rw [d6] at k3; exact k3
    | _ => cases e18
  | _ => cases e16

theorem calm_len {x : Operand} {t : TypeId} {ts : Array TypeId} {v r : PV} (ho : o.op = .call ⟨.builtin .len, #[x], ts⟩) (ht : ts[0]? = some t) (hx : LR w im ρ v (a.eval x)) (hr : lenPV C.P t v = some r) : Calm C.P w im ρ a o r := by
  have go : ∀ n, (Builtin.len_ ts o.type #[a.eval x]).run C.P w = .ok (.int .i64 n) w → Calm C.P w im ρ a o (.int .i64 n) := by
    intro n hn
    exact ⟨_, by simp [execOp, ho, resolve, invoke, builtin, hn], .ext _ _ (.int _ _)⟩
  have arr : ∀ (q : Option PV), (match C.P.underlying t with | some (.array n _) => some (PV.int .i64 n) | _ => none) = some r → Calm C.P w im ρ a o r := by
    intro _ hh
    split at hh
    · rename_i n e hT
      cases hh
      exact go n (by simp [Builtin.len_, ht, run_underlying hT, goInt])
    · cases hh
  unfold lenPV at hr
  split at hr
  · rename_i s
    split at hr
    · rename_i hT; cases hr
      exact go _ (by simp [Builtin.len_, ht, run_underlying hT, goInt, hx.str_inv])
    · cases hr
  · split at hr
    · rename_i e hT; cases hr
      exact go _ (by simp [Builtin.len_, ht, run_underlying hT, goInt, hx.nilS_inv])
    · cases hr
  · rename_i es
    split at hr
    · rename_i e hT; cases hr
      refine go _ ?_
      have hs := hx.slc_inv
      generalize a.eval x = u at *
      cases hs with
      | slcNil c hm => simp [Builtin.len_, ht, run_underlying hT, goInt]
      | slcE p cap hm => simp [Builtin.len_, ht, run_underlying hT, goInt]
      | slc _ g off len cap sz vs hn hm hz hii hc hrl hcap => simp [Builtin.len_, ht, run_underlying hT, goInt, hn]
    · cases hr
  · rename_i b esz off len
    split at hr
    · rename_i e hT; cases hr
      refine go _ ?_
      rcases hx.bs_inv with ⟨_, ⟨x0, hu⟩, _, hl⟩ | ⟨g, cap, cur, e', hg, hu, _⟩ <;> simp [Builtin.len_, ht, run_underlying hT, goInt, hu, *]
    · cases hr
  · exact arr none hr

theorem calm_minMax {mx : Bool} {args : Array Operand} {ts : Array TypeId} {x r : PV} {xs : List PV} (ho : o.op = .call ⟨.builtin (if mx then .max else .min), args, ts⟩)
    (hv : LRL w im ρ (x :: xs) (args.toList.map a.eval)) (hr : minMax mx x xs = some r) : Calm C.P w im ρ a o r := by
  obtain ⟨u, us, hu, h1, h2⟩ := hv.cons_inv
  obtain ⟨u', k1, k2⟩ := run_minMax (P := C.P) (w := w) mx xs us x r u h2 h1 hr
  refine ⟨u', ?_, k2⟩
  cases mx
  · simp only [Bool.false_eq_true, if_false] at ho k1
    simp only [execOp, ho, resolve, invoke, builtin, Builtin.min_, Sem.run_bind, Sem.run_pure, Result.andThen_ok, Array.toList_map, hu]
    simp [k1]
  · simp only [if_true] at ho k1
    simp only [execOp, ho, resolve, invoke, builtin, Builtin.max_, Sem.run_bind, Sem.run_pure, Result.andThen_ok, Array.toList_map, hu]
    simp [k1]

theorem bounds_lo {len : Nat} {vl : PV} {hi : Option PV} {r : Nat × Nat} (hn : ∀ k i, vl ≠ .int k i) : boundsPV len (some vl) hi ≠ some r := by
  intro e
  simp only [boundsPV] at e
  cases vl <;> first | exact absurd rfl (hn _ _) | (split at e <;> first | cases e | (rename_i q; cases q))
theorem bounds_hi {len : Nat} {vh : PV} {lo : Option PV} {r : Nat × Nat} (hn : ∀ k i, vh ≠ .int k i) : boundsPV len lo (some vh) ≠ some r := by
  intro e
  simp only [boundsPV] at e
  cases vh <;> first | exact absurd rfl (hn _ _) | (split at e <;> first | cases e | (rename_i q _; cases q))
theorem slice_fail {T : TypeId} {v : PV} {lo hi : Option PV} {x : Out × Acc} {bx : Bx} (hb : ∀ len r, boundsPV len lo hi ≠ some r) (he : slicePV C.P T v lo hi bx = some x) : False := by
  obtain ⟨x, l⟩ := x
  cases v with
  | str s =>
    obtain ⟨_, _, _, e1, e2, _⟩ := M.bind_some he
    obtain ⟨q, _, _, e3, e4, _⟩ := M.bind_some e2
    exact hb _ _ (M.ofOpt_some e3).1
  | nilS =>
    obtain ⟨_, _, _, e1, e2, _⟩ := M.bind_some he
    obtain ⟨_, _, _, e3, e4, _⟩ := M.bind_some e2
    obtain ⟨q, _, _, e5, e6, _⟩ := M.bind_some e4
    exact hb _ _ (M.ofOpt_some e5).1
  | slc es =>
    obtain ⟨_, _, _, e1, e2, _⟩ := M.bind_some he
    obtain ⟨_, _, _, e3, e4, _⟩ := M.bind_some e2
    obtain ⟨q, _, _, e5, e6, _⟩ := M.bind_some e4
    exact hb _ _ (M.ofOpt_some e5).1
  | bs b esz off len =>
    obtain ⟨_, _, _, e1, e2, _⟩ := M.bind_some he
    obtain ⟨_, _, _, e3, e4, _⟩ := M.bind_some e2
    obtain ⟨_, _, _, e5, e6, _⟩ := M.bind_some e4
    obtain ⟨q, _, _, e7, e8, _⟩ := M.bind_some e6
    exact hb _ _ (M.ofOpt_some e7).1
  | _ => cases he
theorem slice_lo_fail {T : TypeId} {v vl : PV} {hi : Option PV} {x : Out × Acc} {bx : Bx} (hn : ∀ k i, vl ≠ .int k i) (he : slicePV C.P T v (some vl) hi bx = some x) : False := slice_fail (fun _ _ => bounds_lo hn) he
theorem slice_hi_fail {T : TypeId} {v vh : PV} {lo : Option PV} {x : Out × Acc} {bx : Bx} (hn : ∀ k i, vh ≠ .int k i) (he : slicePV C.P T v lo (some vh) bx = some x) : False := slice_fail (fun _ _ => bounds_hi hn) he

theorem args_one {args : Array Operand} {us : List Value} {u : Value} (h : args.toList.map a.eval = [u]) : ∃ x, args = #[x] ∧ a.eval x = u := by
  have hl : args.toList.length = 1 := by simpa using congrArg List.length h
  match hL : args.toList, hl with
  | [x], _ =>
    rw [hL] at h
    exact ⟨x, by apply Array.ext'; simpa using hL, by simpa using h⟩
theorem args_two {args : Array Operand} {u u2 : Value} (h : args.toList.map a.eval = [u, u2]) : ∃ x y, args = #[x, y] ∧ a.eval x = u ∧ a.eval y = u2 := by
  have hl : args.toList.length = 2 := by simpa using congrArg List.length h
  match hL : args.toList, hl with
  | [x, y], _ =>
    rw [hL] at h
    simp at h
    exact ⟨x, y, by apply Array.ext'; simpa using hL, h.1, h.2⟩

theorem does_ofOpt {α : Type} {x : Option α} {f : α → PV} {r : PV} {es : List Eff} {l : Acc} {bx : Bx} (he : (M.ofOpt x).bind (fun v => M.pure (Out.done (f v) [])) bx = some (.done r es, l)) : ∃ v, x = some v ∧ r = f v ∧ es = [] := by
  obtain ⟨v, _, _, e1, e2, _⟩ := M.bind_some he
  obtain ⟨c, _⟩ := M.ofOpt_some e1
  obtain ⟨e3, _⟩ := M.pure_some e2
  cases e3
  exact ⟨v, c, rfl, rfl⟩

/-- THE OPERATIONS: what is done to values is done in the world. -/
theorem op_does {tb : Tab} {id : Nat} (hidL : id < LENT) {vs : List PV} {r : PV} {es : List Eff} {l : Acc} (h : Rel' C st a w ρ im) (hv : LRL w im ρ vs (o.op.operands.toList.map a.eval))
    (he : opVal C.P tb id o.op vs st.box = some (.done r es, l)) : Does C (effsOn es st) a w (execOp a.eval o) r := by
  have he0 := he
  generalize hm : opVal C.P tb id o.op vs = m at he
  unfold opVal at hm
  split at hm <;> subst hm
  case h_1 =>
    rename_i x v ho
    obtain ⟨e, _⟩ := M.pure_some he; cases e
    rw [ho] at hv
    obtain ⟨u, hu, h1⟩ := LRL.one_inv hv
    simp [Op.operands] at hu; subst hu
    exact does_calm h (calm_move ho h1)
  case h_2 =>
    rename_i x v ho
    obtain ⟨e, _⟩ := M.pure_some he; cases e
    rw [ho] at hv
    obtain ⟨u, hu, h1⟩ := LRL.one_inv hv
    simp [Op.operands] at hu; subst hu
    exact does_calm h (calm_assign ho h1)
  case h_3 =>
    rename_i x v ho
    rw [ho] at hv
    obtain ⟨u, hu, h1⟩ := LRL.one_inv hv
    simp [Op.operands] at hu; subst hu
    cases v with
    | bp b e i off => obtain ⟨e, _⟩ := M.pure_some he; cases e; exact does_calm h (calm_nilCheck_bp ho h1)
    | rp cs => obtain ⟨e, _⟩ := M.pure_some he; cases e; exact does_calm h (calm_nilCheck_rp ho h1)
    | fn f p q => obtain ⟨e, _⟩ := M.pure_some he; cases e; exact does_calm h (calm_nilCheck_fn ho h1)
    | _ => cases he
  case h_4 =>
    rename_i c x y b v v' ho
    obtain ⟨e, _⟩ := M.pure_some he; cases e
    rw [ho] at hv
    obtain ⟨u, us, hu, h1, h2⟩ := hv.cons_inv
    obtain ⟨u2, u3, hu2, h3, h4⟩ := h2.two_inv
    simp [Op.operands] at hu
    obtain ⟨rfl, rfl⟩ := hu
    simp at hu2
    obtain ⟨rfl, rfl⟩ := hu2
    exact does_calm h (calm_pick ho h1 h3 h4)
  case h_5 =>
    rename_i T ho
    obtain ⟨z, _, _, e1, e2, _⟩ := M.bind_some he
    obtain ⟨c1, _⟩ := M.ofOpt_some e1
    exact does_alloc hidL ho h c1 e2
  case h_6 =>
    rename_i T x v ho
    rw [ho] at hv
    obtain ⟨u, hu, h1⟩ := LRL.one_inv hv
    simp [Op.operands] at hu; subst hu
    exact does_box hidL ho h h1 he
  case h_7 =>
    rename_i T parts ho
    obtain ⟨_, _, _, e1, e2, _⟩ := M.bind_some he
    obtain ⟨c1, _⟩ := M.ok_some e1
    obtain ⟨z, _, _, e3, e4, _⟩ := M.bind_some e2
    obtain ⟨c2, _⟩ := M.ofOpt_some e3
    obtain ⟨cs, c3, rfl, rfl⟩ := does_ofOpt (f := fun cs => .agg cs) e4
    exact does_build ho h hv c1 c2 c3
  case h_8 =>
    rename_i T n parts ho
    exact does_buildSlice hidL ho h hv he0
  case h_9 =>
    rename_i T x b esz i off ho
    rw [ho] at hv
    obtain ⟨u, hu, h1⟩ := LRL.one_inv hv
    simp [Op.operands] at hu; subst hu
    obtain ⟨S, _, _, e1, e2, _⟩ := M.bind_some he
    obtain ⟨B, hB, rfl, _⟩ := M.soft_some e1
    obtain ⟨_, _, _, e3, e4, _⟩ := M.bind_some e2
    obtain ⟨c1, _⟩ := M.ok_some e3
    obtain ⟨e, _, _, e5, e6, _⟩ := M.bind_some e4
    obtain ⟨c2, _⟩ := M.ofOpt_some e5
    obtain ⟨v, c3, rfl, rfl⟩ := does_ofOpt (f := fun v => v) e6
    exact does_load_bp ho h h1 hB (by simpa [Box.soft] using c1) c2 c3
  case h_10 =>
    rename_i T x cs ho
    rw [ho] at hv
    obtain ⟨u, hu, h1⟩ := LRL.one_inv hv
    simp [Op.operands] at hu; subst hu
    obtain ⟨v, c3, rfl, rfl⟩ := does_ofOpt (f := fun v => v) he
    exact does_load_rp ho h h1 c3
  case h_11 =>
    rename_i T x y b esz i off v ho
    have hv' := hv
    rw [ho] at hv'
    obtain ⟨u, u2, hu, h1, h2⟩ := LRL.two_inv hv'
    simp [Op.operands] at hu
    obtain ⟨rfl, rfl⟩ := hu
    exact does_store ho h h1 h2 he0
  case h_12 =>
    rename_i op t x y ty v v' ho
    rw [ho] at hv
    obtain ⟨u, u2, hu, h1, h2⟩ := LRL.two_inv hv
    simp [Op.operands] at hu
    obtain ⟨rfl, rfl⟩ := hu
    obtain ⟨v, c3, rfl, rfl⟩ := does_ofOpt (f := fun v => v) he
    exact does_calm h (calm_bin ho h1 h2 c3)
  case h_13 =>
    rename_i op t x v ho
    rw [ho] at hv
    obtain ⟨u, hu, h1⟩ := LRL.one_inv hv
    simp [Op.operands] at hu; subst hu
    obtain ⟨v, c3, rfl, rfl⟩ := does_ofOpt (f := fun v => v) he
    exact does_calm h (calm_un ho h1 c3)
  case h_14 =>
    rename_i s d x v ho
    rw [ho] at hv
    obtain ⟨u, hu, h1⟩ := LRL.one_inv hv
    simp [Op.operands] at hu; subst hu
    exact does_conv ho h h1 he
  case h_15 =>
    rename_i f first cap ho
    obtain ⟨e, _⟩ := M.pure_some he; cases e
    rw [ho] at hv
    exact does_calm h (calm_makeFunc ho hv)
  case h_16 =>
    rename_i T x y k1 n k2 c ho
    have hv' := hv
    rw [ho] at hv'
    obtain ⟨u, u2, hu, h1, h2⟩ := LRL.two_inv hv'
    simp [Op.operands] at hu
    obtain ⟨rfl, rfl⟩ := hu
    exact does_makeSlice hidL ho h h1 h2 he0
  case h_17 =>
    rename_i T x v ho
    rw [ho] at hv
    obtain ⟨u, hu, h1⟩ := LRL.one_inv hv
    simp [Op.operands] at hu; subst hu
    exact does_slice (vl := none) (vh := none) h h1 (.inl ⟨rfl, rfl⟩) (.inl ⟨rfl, rfl⟩) (fun u hu => by simp [execOp, ho, hu]) he
  case h_18 =>
    rename_i T x lo v vl ho
    rw [ho] at hv
    obtain ⟨u, u2, hu, h1, h2⟩ := LRL.two_inv hv
    simp [Op.operands] at hu
    obtain ⟨rfl, rfl⟩ := hu
    cases vl with
    | int k i => exact does_slice (vl := some (a.eval lo)) (vh := none) h h1 (.inr ⟨k, i, rfl, by rw [h2.int_inv]⟩) (.inl ⟨rfl, rfl⟩) (fun u hu => by simp [execOp, ho, hu]) he
    | _ => exact (slice_lo_fail (by intro k i e; cases e) he).elim
  case h_19 =>
    rename_i T x hi v vh ho
    rw [ho] at hv
    obtain ⟨u, u2, hu, h1, h2⟩ := LRL.two_inv hv
    simp [Op.operands] at hu
    obtain ⟨rfl, rfl⟩ := hu
    cases vh with
    | int k i => exact does_slice (vl := none) (vh := some (a.eval hi)) h h1 (.inl ⟨rfl, rfl⟩) (.inr ⟨k, i, rfl, by rw [h2.int_inv]⟩) (fun u hu => by simp [execOp, ho, hu]) he
    | _ => exact (slice_hi_fail (by intro k i e; cases e) he).elim
  case h_20 =>
    rename_i T x lo hi v vl vh ho
    rw [ho] at hv
    obtain ⟨u, us, hu, h1, h2⟩ := hv.cons_inv
    obtain ⟨u2, u3, hu2, h3, h4⟩ := h2.two_inv
    simp [Op.operands] at hu
    obtain ⟨rfl, rfl⟩ := hu
    simp at hu2
    obtain ⟨rfl, rfl⟩ := hu2
    cases vh with
    | int k i =>
      cases vl with
      | int k' i' => exact does_slice (vl := some (a.eval lo)) (vh := some (a.eval hi)) h h1 (.inr ⟨k', i', rfl, by rw [h3.int_inv]⟩) (.inr ⟨k, i, rfl, by rw [h4.int_inv]⟩) (fun u hu => by simp [execOp, ho, hu]) he
      | _ => exact (slice_lo_fail (by intro k i e; cases e) he).elim
    | _ => exact (slice_hi_fail (by intro k i e; cases e) he).elim
  case h_21 =>
    rename_i T x f b esz i off ho
    rw [ho] at hv
    obtain ⟨u, hu, h1⟩ := LRL.one_inv hv
    simp [Op.operands] at hu; subst hu
    obtain ⟨q, c3, rfl, rfl⟩ := does_ofOpt (f := fun q : Nat × TypeId × Nat => .bp b esz i (off + q.1)) he
    exact does_calm h (calm_fieldAddr_bp ho h1 c3)
  case h_22 =>
    rename_i T x f cs ho
    rw [ho] at hv
    obtain ⟨u, hu, h1⟩ := LRL.one_inv hv
    simp [Op.operands] at hu; subst hu
    obtain ⟨q, c3, rfl, rfl⟩ := does_ofOpt (f := fun q : Nat × TypeId × Nat => .rp (cs.drop q.1)) he
    exact does_calm h (calm_fieldAddr_rp ho h1 c3)
  case h_23 =>
    rename_i T x f cs ho
    rw [ho] at hv
    obtain ⟨u, hu, h1⟩ := LRL.one_inv hv
    simp [Op.operands] at hu; subst hu
    obtain ⟨q, _, _, e1, e2, _⟩ := M.bind_some he
    obtain ⟨c1, _⟩ := M.ofOpt_some e1
    obtain ⟨v, c3, rfl, rfl⟩ := does_ofOpt (f := fun v => v) e2
    exact does_calm h (calm_field ho h1 c1 c3)
  case h_24 =>
    rename_i T x y v k i ho
    rw [ho] at hv
    obtain ⟨u, u2, hu, h1, h2⟩ := LRL.two_inv hv
    simp [Op.operands] at hu
    obtain ⟨rfl, rfl⟩ := hu
    cases v with
    | bp b esz kk off =>
      obtain ⟨q, _, _, e1, e2, _⟩ := M.bind_some he
      obtain ⟨c1, _⟩ := M.ofOpt_some e1
      obtain ⟨s, _, _, e3, e4, _⟩ := M.bind_some e2
      obtain ⟨c2, _⟩ := M.ofOpt_some e3
      obtain ⟨_, _, _, e5, e6, _⟩ := M.bind_some e4
      obtain ⟨c3, _⟩ := M.ok_some e5
      obtain ⟨e7, _⟩ := M.pure_some e6
      cases e7
      simp only [Bool.and_eq_true, decide_eq_true_eq] at c3
      exact does_calm h (calm_indexAddr_bp ho h1 h2 c1 c2 c3.1.1 c3.1.2)
    | rp cs =>
      obtain ⟨q, _, _, e1, e2, _⟩ := M.bind_some he
      obtain ⟨c1, _⟩ := M.ofOpt_some e1
      obtain ⟨s, _, _, e3, e4, _⟩ := M.bind_some e2
      obtain ⟨c2, _⟩ := M.ofOpt_some e3
      obtain ⟨_, _, _, e5, e6, _⟩ := M.bind_some e4
      obtain ⟨c3, _⟩ := M.ok_some e5
      obtain ⟨e7, _⟩ := M.pure_some e6
      cases e7
      simp only [Bool.and_eq_true, decide_eq_true_eq] at c3
      exact does_calm h (calm_indexAddr_rp ho h1 h2 c1 c2 c3.1.1 c3.1.2)
    | bs b esz off len =>
      obtain ⟨q, _, _, e1, e2, _⟩ := M.bind_some he
      obtain ⟨c1, _⟩ := M.ofOpt_some e1
      obtain ⟨s, _, _, e3, e4, _⟩ := M.bind_some e2
      obtain ⟨c2, _⟩ := M.ofOpt_some e3
      obtain ⟨_, _, _, e5, e6, _⟩ := M.bind_some e4
      obtain ⟨c3, _⟩ := M.ok_some e5
      obtain ⟨e7, _⟩ := M.pure_some e6
      cases e7
      simp only [Bool.and_eq_true, decide_eq_true_eq, beq_iff_eq] at c3
      exact does_calm h (calm_indexAddr_bs ho h1 h2 c1 c2 c3.1.1 c3.1.2 c3.2)
    | slc es =>
      obtain ⟨q, _, _, e1, e2, _⟩ := M.bind_some he
      obtain ⟨c1, _⟩ := M.ofOpt_some e1
      obtain ⟨s, _, _, e3, e4, _⟩ := M.bind_some e2
      obtain ⟨c2, _⟩ := M.ofOpt_some e3
      obtain ⟨_, _, _, e5, e6, _⟩ := M.bind_some e4
      obtain ⟨c3, _⟩ := M.ok_some e5
      obtain ⟨el, _, _, e7, e8, _⟩ := M.bind_some e6
      obtain ⟨c4, _⟩ := M.ofOpt_some e7
      obtain ⟨_, _, _, e9, e10, _⟩ := M.bind_some e8
      obtain ⟨c5, _⟩ := M.ok_some e9
      obtain ⟨e11, _⟩ := M.pure_some e10
      cases e11
      exact does_calm h (calm_indexAddr_slc ho h1 h2 c1 c2 (of_decide_eq_true c3) c4 (by simpa using c5))
    | _ => cases he
  case h_25 =>
    rename_i T x y v k i ho
    rw [ho] at hv
    obtain ⟨u, u2, hu, h1, h2⟩ := LRL.two_inv hv
    simp [Op.operands] at hu
    obtain ⟨rfl, rfl⟩ := hu
    cases v with
    | agg cs =>
      obtain ⟨q, _, _, e1, e2, _⟩ := M.bind_some he
      obtain ⟨c1, _⟩ := M.ofOpt_some e1
      obtain ⟨s, _, _, e3, e4, _⟩ := M.bind_some e2
      obtain ⟨c2, _⟩ := M.ofOpt_some e3
      obtain ⟨_, _, _, e5, e6, _⟩ := M.bind_some e4
      obtain ⟨c3, _⟩ := M.ok_some e5
      obtain ⟨v, c4, rfl, rfl⟩ := does_ofOpt (f := fun v => v) e6
      simp only [Bool.and_eq_true, decide_eq_true_eq] at c3
      exact does_calm h (calm_index_agg ho h1 h2 c1 c2 c3.1 c3.2 c4)
    | str s =>
      obtain ⟨_, _, _, e5, e6, _⟩ := M.bind_some he
      obtain ⟨c3, _⟩ := M.ok_some e5
      obtain ⟨c, c4, rfl, rfl⟩ := does_ofOpt (f := fun c : UInt8 => .int .u8 c.toNat) e6
      split at c3
      · rename_i hT; exact does_calm h (calm_index_str ho h1 h2 hT (of_decide_eq_true c3) c4)
      · cases c3
    | _ => cases he
  case h_26 =>
    rename_i x i vs ho
    rw [ho] at hv
    obtain ⟨u, hu, h1⟩ := LRL.one_inv hv
    simp [Op.operands] at hu; subst hu
    obtain ⟨v, c3, rfl, rfl⟩ := does_ofOpt (f := fun v => v) he
    exact does_calm h (calm_extract ho h1 c3)
  case h_27 =>
    rename_i args ts v ho
    rw [ho] at hv
    obtain ⟨u, hu, h1⟩ := LRL.one_inv hv
    simp only [Op.operands, Call.operands, Array.empty_append] at hu
    obtain ⟨x, rfl, rfl⟩ := args_one (us := []) hu
    obtain ⟨t, _, _, e1, e2, _⟩ := M.bind_some he
    obtain ⟨c1, _⟩ := M.ofOpt_some e1
    obtain ⟨v, c3, rfl, rfl⟩ := does_ofOpt (f := fun v => v) e2
    exact does_calm h (calm_len ho c1 h1 c3)
  case h_28 =>
    rename_i args ts s x ho
    rw [ho] at hv
    obtain ⟨u, u2, hu, h1, h2⟩ := LRL.two_inv hv
    simp only [Op.operands, Call.operands, Array.empty_append] at hu
    obtain ⟨y, y2, rfl, rfl, rfl⟩ := args_two hu
    obtain ⟨t, _, _, e1, e2, _⟩ := M.bind_some he
    obtain ⟨c1, _⟩ := M.ofOpt_some e1
    obtain ⟨t2, _, _, e3, e4, _⟩ := M.bind_some e2
    obtain ⟨c2, _⟩ := M.ofOpt_some e3
    obtain ⟨_, _, _, e5, e6, _⟩ := M.bind_some e4
    obtain ⟨c3, _⟩ := M.ok_some e5
    simp only [beq_iff_eq] at c3
    have hts : ts = #[t, t2] := by
      apply Array.ext_getElem?
      intro k
      match k with
      | 0 => simpa using c1
      | 1 => simpa using c2
      | k + 2 => rw [Array.getElem?_eq_none (by omega), Array.getElem?_eq_none (by simp)]
    subst hts
    exact does_append hidL (ty := o.type) h h1 h2 (fun v w' hr => by simp [execOp, ho, resolve, invoke, builtin, hr]) e6
  case h_29 =>
    rename_i args ts x xs ho
    rw [ho] at hv
    obtain ⟨v, c3, rfl, rfl⟩ := does_ofOpt (f := fun v => v) he
    exact does_calm h (calm_minMax (mx := true) ho (by simpa [Op.operands, Call.operands] using hv) c3)
  case h_30 =>
    rename_i args ts x xs ho
    rw [ho] at hv
    obtain ⟨v, c3, rfl, rfl⟩ := does_ofOpt (f := fun v => v) he
    exact does_calm h (calm_minMax (mx := false) ho (by simpa [Op.operands, Call.operands] using hv) c3)
  case h_31 =>
    clear he0
    revert he
    cases lkp tb id with
    | none =>
      intro he
      obtain ⟨_, _, _, e1, e2, _⟩ := M.bind_some he
      obtain ⟨_, _, _, e3, e4, _⟩ := M.bind_some e2
      obtain ⟨_, _, _, e5, e6, _⟩ := M.bind_some e4
      obtain ⟨e7, _⟩ := M.pure_some e6
      cases e7
    | some p =>
      intro he
      obtain ⟨_, _, _, e1, e2, _⟩ := M.bind_some he
      obtain ⟨_, _, _, e3, e4, _⟩ := M.bind_some e2
      obtain ⟨_, _, _, e5, e6, _⟩ := M.bind_some e4
      obtain ⟨_, _, _, e7, e8, _⟩ := M.bind_some e6
      obtain ⟨e9, _⟩ := M.pure_some e8
      cases e9
  case h_32 =>
    obtain ⟨_, _, _, e1, e2, _⟩ := M.bind_some he
    obtain ⟨_, _, _, e3, e4, _⟩ := M.bind_some e2
    obtain ⟨e7, _⟩ := M.pure_some e4
    cases e7
  case h_33 =>
    rename_i args ts d x ho
    rw [ho] at hv
    obtain ⟨u, u2, hu, h1, h2⟩ := LRL.two_inv hv
    simp only [Op.operands, Call.operands, Array.empty_append] at hu
    obtain ⟨y, y2, rfl, rfl, rfl⟩ := args_two hu
    obtain ⟨t, _, _, e1, e2, _⟩ := M.bind_some he
    obtain ⟨c1, _⟩ := M.ofOpt_some e1
    exact does_copy (ty := o.type) h h1 h2 c1 (fun v w' hr => by simp [execOp, ho, resolve, invoke, builtin, hr]) e2
  case h_34 =>
    rename_i args ts d ho
    rw [ho] at hv
    obtain ⟨u, hu, h1⟩ := LRL.one_inv hv
    simp only [Op.operands, Call.operands, Array.empty_append] at hu
    obtain ⟨x, rfl, rfl⟩ := args_one (us := []) hu
    obtain ⟨t, _, _, e1, e2, _⟩ := M.bind_some he
    obtain ⟨c1, _⟩ := M.ofOpt_some e1
    exact does_clear (ty := o.type) h h1 c1 (fun w' hr => by simp [execOp, ho, resolve, invoke, builtin, hr]) e2
  case h_35 => cases he

end
end Go.Vl
