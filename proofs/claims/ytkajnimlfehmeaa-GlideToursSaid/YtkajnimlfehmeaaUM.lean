/-
  Regions: whatever the order.
-/
import Derived.Test.YtkajnimlfehmeaaUL2
import Derived.Orders
import Derived.TacticsIn
set_option linter.unusedSimpArgs false
set_option linter.unusedVariables false
namespace Go.Vl
open Go.RowKit

section
variable {C : Ctx} {st : St} {a : Act} {w : World} {o : Oper} {ops : Array Oper}

theorem softEq_refl (st : St) : SoftEq st.box st := fun _ => rfl

theorem SoundAt.calls {P : Program} {f : FuncId} {args : List PV} {r : PV} (h : SoundAt P f args r) : ∃ fn, P.funcs[f]? = some fn ∧ fn.body.isSome = true ∧ (fn.name == "runtime.NumGoroutine") = false := by
  have h1 := h.1
  unfold callable at h1
  split at h1
  · rename_i fn hf
    simp only [Bool.and_eq_true, Bool.not_eq_true'] at h1
    exact ⟨fn, hf, h1.1, h1.2⟩
  · cases h1

theorem SoundB.calls {P : Program} {f : FuncId} {args : List PV} {bxs bxs' : List (Nat × Box)} {r : PV} (h : SoundB P f args bxs r bxs') : ∃ fn, P.funcs[f]? = some fn ∧ fn.body.isSome = true ∧ (fn.name == "runtime.NumGoroutine") = false := by
  have h1 := h.1
  unfold callable at h1
  split at h1
  · rename_i fn hf
    simp only [Bool.and_eq_true, Bool.not_eq_true'] at h1
    exact ⟨fn, hf, h1.1, h1.2⟩
  · cases h1

/-- The widest fence, in a function's frame or in a round's. -/
def FW (rd : Option Nat) : Fence := { Fence.wide with round := rd }

theorem opIn {rd : Option Nat} {P : Program} {K : Act → World → Prop} {Q : Exit → Act → World → Prop} (hd : ∀ c, o.op ≠ .defer c) (h : o.uponIn (FW rd) 0 P a K Q ((execOp a.eval o).run P w)) : o.wpIn (FW rd) 0 P a w K Q := by
  refine ⟨fun _ _ => trivial, ?_⟩
  have : o.semAt (FW rd).round a.eval = execOp a.eval o := by
    cases rd with
    | none => rfl
    | some l => exact Oper.semAt_some l a.eval o hd
  rw [this]; exact h

theorem callsIn_FW {rd : Option Nat} {P : Program} {f : FuncId} {args : Array Value} {R : Ending → World → Prop} (h : Calls P f args w R) : CallsIn (FW rd) 0 P f args w R := callsIn_wide.2 h

theorem opVal_defer {P : Program} {tb : Tab} {id : Nat} {op : Op} {vs : List PV} {bx : Bx} {x : Out × Acc} (h : opVal P tb id op vs bx = some x) : ∀ c, op ≠ .defer c := by
  rintro c rfl
  simp [opVal, M.fail] at h

/-- ONE OPERATION, IN THE WORLD. -/
theorem oper_sim {tb : Tab} {id : Nat} {r : Rec} (h : Rel C st a w) (hr : OpRun C.P tb ops st id o r) (hidL : id < LENT) (hd : ∀ t, o.dst = some t → t < C.nt) {rd : Option Nat} {K : Act → World → Prop} {Q : Exit → Act → World → Prop}
    (hK : ∀ a' w', Rel C (r.on o.dst st) a' w' → K a' w') :
    if Region.wanted o (yielded ops a.tmps) then o.wpIn (FW rd) 0 C.P a w K Q else (∀ f, o.about C.P w a.eval = some f → (FW rd).fn f) ∧ K (a.put o.dst undef) w := by
  obtain ⟨ρ, im, h⟩ := h
  cases hr with
  | skip hw =>
    rw [wanted_sim h hw]
    exact ⟨fun _ _ => trivial, hK _ _ (Rel.put h hd (.ext _ _ (.tup [] [] .nil)))⟩
  | done hw vs hv v es l he =>
    rw [wanted_sim h hw]
    obtain ⟨u, w', ρ', im', hrun, h1, h2⟩ := op_does hidL h (evs_rep h hv) he
    have hk := hK _ _ (Rel.put h1 hd h2)
    simp only [if_true]
    refine opIn (opVal_defer he) ?_
    rcases hrun with hrun | ⟨hrun, hu⟩
    · rw [hrun]; exact hk
    · rw [hrun]; rw [hu] at hk; exact hk
  | call hw vs hv f args es l r he hs =>
    rw [wanted_sim h hw]
    cases opVal_call he (by intro v es e; cases e) with
    | callB fo as ts f first cap vargs θ ν x l hop hvs hx =>
      obtain ⟨_, _, _, _, e2, _⟩ := M.bind_some hx
      obtain ⟨_, _, _, _, e4, _⟩ := M.bind_some e2
      obtain ⟨_, _, _, _, e6, _⟩ := M.bind_some e4
      obtain ⟨_, _, _, _, e8, _⟩ := M.bind_some e6
      obtain ⟨e9, _⟩ := M.pure_some e8
      cases e9
    | call fo as ts f first cap vargs x y z l1 l2 l3 hop hvs e1 e2 e3 =>
    subst hvs
    have hv' := evs_rep h hv
    rw [hop] at hv'
    simp only [Op.operands, Call.operands] at hv'
    obtain ⟨uf, uargs, hu, h1, h2⟩ := hv'.cons_inv
    simp at hu
    obtain ⟨hu1, hu2⟩ := hu
    obtain ⟨p, q, hpq, hp, hq⟩ := h1.fn_inv
    obtain ⟨x1, xe⟩ := x
    obtain ⟨y1, ye⟩ := y
    obtain ⟨z1, ze⟩ := z
    obtain ⟨im1, g1, r1⟩ := escCL_sim h (softEq_refl st) hp e1
    obtain ⟨im2, g2, r2⟩ := esc1L_sim g1.rel g1.soft (h2.mono (Keeps.refl _ _) g1.im fun _ _ x => x) e2
    obtain ⟨im3, g3, r3⟩ := escCL_sim g2.rel g2.soft (hq.mono (Keeps.refl _ _) (fun g j x => g2.im g j (g1.im g j x)) fun _ _ x => x) e3
    have hargs : RepL w im3 (x1 ++ y1 ++ z1) (p ++ uargs ++ q) :=
      ((r1.mono (fun _ _ _ => rfl) fun g j x => g3.im g j (g2.im g j x)).append (r2.mono (fun _ _ _ => rfl) g3.im)).append r3
    obtain ⟨fn, hf1, hf2, hf3⟩ := hs.calls
    have hcall := hs.2 w im3 _ hargs g3.rel.imc
    have hst3 : effsOn ze (effsOn ye (effsOn xe st)) = effsOn (xe ++ ye ++ ze) st := by rw [effsOn_append, effsOn_append]
    have g3' := g3.rel
    rw [hst3] at g3'
    simp only [if_true]
    refine opIn (opVal_defer he) ?_
    have hrun : (execOp a.eval o).run C.P w = .ok (.enter f (p ++ uargs ++ q).toArray) w := by
      have hn : ¬ fn.name = "runtime.NumGoroutine" := by simpa using hf3
      have hbn : ¬ fn.body = none := by intro e; rw [e] at hf2; cases hf2
      simp [execOp, hop, resolve, hu1, hpq, Deferred.ofValue, invoke, callFunc, hf1, hn, hbn]
      exact hu2
    rw [hrun, Oper.uponIn_enter]
    refine ⟨fun e => (by cases e), (callsIn_FW hcall).mono ?_⟩
    rintro e w' ⟨v, rfl, hbl, hrv⟩
    refine hK _ _ ?_
    by_cases hfl : flatPV r = true
    · simp only [Rec.on, hfl, if_true, effsOn_nil]
      exact Rel.put (h.below_call hbl) hd (.ext _ _ (flat_rep hfl hrv))
    · simp only [Rec.on, hfl, if_false]
      refine Rel.put (g3'.grow (im' := newIm im3 w w') (.of_below hbl) (Keeps.of_below hbl g3'.imc) (g3'.below_call hbl) (fun _ _ x => .inl x) ?_) hd (.ext _ _ hrv)
      rintro g j (x | ⟨x, y⟩)
      · exact .inl x
      · exact .inr ⟨x, y, fun b hb => by have := (h.block_lt hb).1; omega⟩
  | callB hw vs hv f args bxs es θ ν l r bxs' r' ef he hs hl =>
    rw [wanted_sim h hw]
    cases opVal_call he (by intro v es e; cases e) with
    | callB fo as ts f first cap vargs θ ν x l hop hvs hx =>
    subst hvs
    have hv' := evs_rep h hv
    rw [hop] at hv'
    simp only [Op.operands, Call.operands] at hv'
    obtain ⟨uf, uargs, hu, h1, h2⟩ := hv'.cons_inv
    simp at hu
    obtain ⟨hu1, hu2⟩ := hu
    obtain ⟨p, q, hpq, hp, hq⟩ := h1.fn_inv
    obtain ⟨fn, hf1, hf2, hf3⟩ := hs.calls
    simp only [if_true]
    refine opIn (opVal_defer he) ?_
    obtain ⟨rfl, im1, k1, k2, k3, k4⟩ := lend_sim h ((hp.append h2).append hq) hx
    have hrun : (execOp a.eval o).run C.P w = .ok (.enter f (p ++ uargs ++ q).toArray) w := by
      have hn : ¬ fn.name = "runtime.NumGoroutine" := by simpa using hf3
      have hbn : ¬ fn.body = none := by intro e; rw [e] at hf2; cases hf2
      simp [execOp, hop, resolve, hu1, hpq, Deferred.ofValue, invoke, callFunc, hf1, hn, hbn]
      exact hu2
    rw [hrun, Oper.uponIn_enter]
    refine ⟨fun e => (by cases e), (callsIn_FW (hs.2 w im1 _ _ k1 k2 k3)).mono ?_⟩
    rintro e w' ⟨v, ρ', im', rfl, hst, himc, hbox, hstay, hrv⟩
    obtain ⟨ρ2, im2, m1, m2⟩ := k4 r bxs' r' ef hl w' ρ' im' v hst himc hbox hstay hrv
    exact hK _ _ (Rel.put m1 hd m2)
  | yield hw vs hv n stop args es l he hy hs =>
    rw [wanted_sim h hw]
    cases opVal_call he (by intro v es e; cases e) with
    | callB fo as ts f first cap vargs θ ν x l hop hvs hx =>
      obtain ⟨_, _, _, _, e2, _⟩ := M.bind_some hx
      obtain ⟨_, _, _, _, e4, _⟩ := M.bind_some e2
      obtain ⟨_, _, _, _, e6, _⟩ := M.bind_some e4
      obtain ⟨_, _, _, _, e8, _⟩ := M.bind_some e6
      obtain ⟨e9, _⟩ := M.pure_some e8
      cases e9
    | yield fo as ts n stop vargs y l1 hop hvs e1 =>
    subst hvs
    have hv' := evs_rep h hv
    rw [hop] at hv'
    simp only [Op.operands, Call.operands] at hv'
    obtain ⟨uf, uargs, hu, h1, h2⟩ := hv'.cons_inv
    simp at hu
    obtain ⟨hu1, hu2⟩ := hu
    have hyv := h1.yld_inv
    obtain ⟨y1, ye⟩ := y
    obtain ⟨im1, g1, r1⟩ := esc1L_sim h (softEq_refl st) h2 e1
    have hr1 := g1.rel.root
    rw [g1.yl, g1.out] at hr1
    simp only [if_true]
    refine opIn (opVal_defer he) ?_
    obtain ⟨fn, tmps, assign, body, k1, k2⟩ := C.hY (hr1.yl.symm.trans hy) st.out y1 uargs hs hr1.ghost g1.rel.imc r1 hr1.below.size
    have hrun : (execOp a.eval o).run C.P w = .ok (.round n fn tmps assign body) w := by
      simp [execOp, hop, resolve, hu1, hyv, Deferred.ofValue, invoke]
      rw [← hu2] at k1
      have hA : (as.toList.map a.eval).toArray = as.map a.eval := Array.ext' (by simp)
      rw [hA] at k1
      exact k1
    rw [hrun, Oper.uponIn_round]
    refine ⟨fun e => (by cases e), RoundIn.mono (F := Fence.wide) k2 ?_⟩
    rintro e w' ⟨rfl, ht, hj⟩
    refine hK _ _ ?_
    have hT := g1.rel.turned (args := y1) ht (by rw [g1.out]; exact hj)
    have := Rel.put hT hd (v := .bool (decide (st.out.length < stop))) (u := .bool (decide (st.out.length < stop))) (.ext _ _ (.bool _))
    simpa [Rec.on, effsOn_append, effsOn_cons, effsOn_nil, Eff.on] using this

end

/-! ### runs in an order -/
def opTmps (o : Op) : List Tmp := o.operands.toList.filterMap fun | .tmp t => some t | _ => none
def usesOf (ops : Array Oper) (o : Oper) : List Tmp := opTmps o.op ++ (match guardTmp ops o with | some (t, _) => [t] | none => [])

theorem evs_frame {st st' : St} : ∀ {xs : List Operand}, (∀ t ∈ (xs.filterMap fun | .tmp t => some t | _ => none), st'.var t = st.var t) → st'.evs xs = st.evs xs
  | [], _ => rfl
  | x :: xs, h => by
    have hx : st'.ev x = st.ev x := by
      cases x with
      | tmp t => exact h t (by simp)
      | _ => rfl
    have hxs : st'.evs xs = st.evs xs := evs_frame fun t ht => h t (by cases x <;> simp_all)
    simp only [St.evs, hx, hxs]

theorem wanted_frame {ops : Array Oper} {o : Oper} {st st' : St} (h : ∀ t ∈ usesOf ops o, st'.var t = st.var t) : wantedPV ops o st' = wantedPV ops o st := by
  unfold wantedPV
  cases hg : o.guard with
  | none => rfl
  | some p =>
    simp only
    cases ht : guardTmp ops o with
    | none => rfl
    | some q =>
      obtain ⟨t, want⟩ := q
      simp only
      rw [h t (by simp [usesOf, ht])]

theorem OpRun.frame {P : Program} {tb : Tab} {ops : Array Oper} {st st' : St} {id : Nat} {o : Oper} {r : Rec} (h : OpRun P tb ops st id o r) (hny : ∀ h, (YID, h) ∉ r.acc) (hv : ∀ t ∈ usesOf ops o, st'.var t = st.var t) (hb : AgreeAcc r.acc st.box st'.box) :
    OpRun P tb ops st' id o r := by
  have he : st'.evs o.op.operands.toList = st.evs o.op.operands.toList := evs_frame fun t ht => hv t (List.mem_append_left _ ht)
  cases h with
  | skip hw => exact .skip (by rw [wanted_frame hv]; exact hw)
  | done hw vs hvs v es l he' => exact .done (by rw [wanted_frame hv]; exact hw) vs (by rw [he]; exact hvs) v es l (opVal_framed _ _ _ _ _ _ _ _ _ he' hb.append.1)
  | call hw vs hvs f args es l r he' hs => exact .call (by rw [wanted_frame hv]; exact hw) vs (by rw [he]; exact hvs) f args es l r (opVal_framed _ _ _ _ _ _ _ _ _ he' hb.append.1) hs
  | callB hw vs hvs f args bxs es θ ν l r bxs' r' ef he' hs hl => exact .callB (by rw [wanted_frame hv]; exact hw) vs (by rw [he]; exact hvs) f args bxs es θ ν l r bxs' r' ef (opVal_framed _ _ _ _ _ _ _ _ _ he' hb.append.1.append.1) hs hl
  | yield hw vs hvs n stop args es l he' hy hs => exact absurd (List.mem_append_right _ (List.mem_singleton.2 rfl)) (hny true)

theorem OpRun.effs {P : Program} {tb : Tab} {ops : Array Oper} {st : St} {id : Nat} {o : Oper} {r : Rec} (h : OpRun P tb ops st id o r) : ∀ e ∈ r.effs, (e.id, e.hard) ∈ r.acc := by
  cases h with
  | skip hw => simp
  | done hw vs hvs v es l he' => intro e he; exact List.mem_append_right _ (List.mem_map.2 ⟨e, he, rfl⟩)
  | call hw vs hvs f args es l r he' hs =>
    intro e he
    simp only at he
    split at he
    · simp at he
    · exact List.mem_append_right _ (List.mem_map.2 ⟨e, he, rfl⟩)
  | callB hw vs hvs f args bxs es θ ν l r bxs' r' ef he' hs hl =>
    intro e he
    rcases List.mem_append.1 he with he | he
    · split at he
      · simp at he
      · exact List.mem_append_left _ (List.mem_append_right _ (List.mem_map.2 ⟨e, he, rfl⟩))
    · exact List.mem_append_right _ (List.mem_map.2 ⟨e, he, rfl⟩)
  | yield hw vs hvs n stop args es l he' hy hs =>
    intro e he
    rcases List.mem_append.1 he with he | he
    · exact List.mem_append_left _ (List.mem_append_right _ (List.mem_map.2 ⟨e, he, rfl⟩))
    · rw [List.mem_singleton.1 he]; exact List.mem_append_right _ (List.mem_singleton.2 rfl)

/-- Two operations that do not see each other. -/
structure Apart (ops : Array Oper) (o1 o2 : Oper) (l1 l2 : Acc) : Prop where
  d1 : ∀ t, o1.dst = some t → t ∉ usesOf ops o2
  d2 : ∀ t, o2.dst = some t → t ∉ usesOf ops o1
  dd : ∀ t, o1.dst = some t → o2.dst ≠ some t
  acc : ∀ b h1 h2, (b, h1) ∈ l1 → (b, h2) ∈ l2 → h1 = false ∧ h2 = false
  y1 : ∀ h, (YID, h) ∉ l1
  y2 : ∀ h, (YID, h) ∉ l2

def apartB (ops : Array Oper) (o1 o2 : Oper) (l1 l2 : Acc) : Bool :=
  (match o1.dst with | some t => !(usesOf ops o2).contains t && !(o2.dst == some t) | none => true) &&
  (match o2.dst with | some t => !(usesOf ops o1).contains t | none => true) &&
  (l1.all fun p => l2.all fun q => p.1 != q.1 || (!p.2 && !q.2)) && (l1.all fun p => p.1 != YID) && l2.all fun p => p.1 != YID

theorem apartB_spec {ops : Array Oper} {o1 o2 : Oper} {l1 l2 : Acc} (h : apartB ops o1 o2 l1 l2 = true) : Apart ops o1 o2 l1 l2 := by
  simp only [apartB, Bool.and_eq_true] at h
  obtain ⟨⟨⟨⟨h1, h2⟩, h3⟩, h4⟩, h5⟩ := h
  refine ⟨?_, ?_, ?_, ?_, fun x hx => by have := List.all_eq_true.1 h4 _ hx; simp at this, fun x hx => by have := List.all_eq_true.1 h5 _ hx; simp at this⟩
  · intro t ht; rw [ht] at h1; simp at h1; exact h1.1
  · intro t ht; rw [ht] at h2; simp at h2; exact h2
  · intro t ht; rw [ht] at h1; simp at h1; exact h1.2
  · intro b x y hx hy
    have := List.all_eq_true.1 (List.all_eq_true.1 h3 _ hx) _ hy
    simpa using this

theorem eff_soft (e : Eff) (st : St) {b : Nat} (h : e.id = b → e.hard = false) : ((e.on st).box b).map Box.soft = (st.box b).map Box.soft := by
  by_cases hb : e.id = b
  · have := h hb
    cases e with
    | fro b' n =>
      simp only [Eff.id] at hb
      subst hb
      simp only [Eff.on]
      split
      · rename_i B hB; simp [St.setBox, upd_same, hB, Box.soft]
      · rfl
    | _ => simp [Eff.hard] at this
  · rw [eff_other e st hb]

theorem effs_soft : ∀ (es : List Eff) (st : St) {b : Nat}, (∀ e ∈ es, e.id = b → e.hard = false) → ((effsOn es st).box b).map Box.soft = (st.box b).map Box.soft
  | [], _, _, _ => rfl
  | e :: es, st, b, h => by
    rw [effsOn_cons, effs_soft es _ fun x hx => h x (by simp [hx])]
    exact eff_soft e st (h e (by simp))

theorem eff_var (e : Eff) (st : St) : (e.on st).var = st.var := by
  cases e <;> simp only [Eff.on] <;> first | rfl | (split <;> rfl)
theorem effs_var : ∀ (es : List Eff) (st : St), (effsOn es st).var = st.var
  | [], _ => rfl
  | e :: es, st => by rw [effsOn_cons, effs_var es, eff_var]

theorem put_box (st : St) (dst : Option Tmp) (v : PV) : (st.put dst v).box = st.box := by cases dst <;> rfl
theorem put_var_other (st : St) {dst : Option Tmp} (v : PV) {t : Nat} (h : dst ≠ some t) : (st.put dst v).var t = st.var t := by
  cases dst with
  | none => rfl
  | some d => exact upd_other _ _ _ _ fun e => h (by rw [e])

theorem agree_after {P : Program} {tb : Tab} {ops : Array Oper} {st : St} {id1 : Nat} {o1 o2 : Oper} {r1 : Rec} {l2 : Acc} (h : OpRun P tb ops st id1 o1 r1) (ha : Apart ops o1 o2 r1.acc l2) :
    AgreeAcc l2 st.box (r1.on o1.dst st).box := by
  rintro ⟨b, h2⟩ hp
  simp only [Rec.on, put_box]
  cases h2 with
  | true =>
    simp only [if_true]
    exact (effsOn_other _ _ fun e he hb => by have := (ha.acc b e.hard true (by rw [← hb]; exact h.effs e he) hp).2; cases this).symm
  | false =>
    simp only [Bool.false_eq_true, if_false]
    exact (effs_soft _ _ fun e he hb => (ha.acc b e.hard false (by rw [← hb]; exact h.effs e he) hp).1).symm

theorem agree_symm {l : Acc} {bx bx' : Bx} (h : AgreeAcc l bx bx') : AgreeAcc l bx' bx := by
  intro p hp
  have := h p hp
  split <;> simp_all

theorem St.ext' {s t : St} (h1 : s.var = t.var) (h2 : s.box = t.box) (h3 : s.out = t.out) (h4 : s.yl = t.yl) : s = t := by cases s; cases t; simp_all

theorem upd_comm {α : Type} (f : Nat → α) {i j : Nat} (x y : α) (h : i ≠ j) : upd (upd f i x) j y = upd (upd f j y) i x := by
  funext k
  simp only [upd]
  by_cases h1 : k = j <;> by_cases h2 : k = i <;> simp_all

theorem eff_comm (e1 e2 : Eff) (st : St) (y1 : e1.id ≠ YID) (y2 : e2.id ≠ YID) (h : e1.id ≠ e2.id ∨ (e1.hard = false ∧ e2.hard = false)) : e1.on (e2.on st) = e2.on (e1.on st) := by
  -- what an effect makes of its box
  have form : ∀ (e : Eff) (s : St), e.id ≠ YID → (e.on s) = s ∨ ∃ B, (e.on s) = s.setBox e.id B ∧ ∀ s' : St, s'.box e.id = s.box e.id → e.on s' = s'.setBox e.id B := by
    intro e s hy
    cases e with
    | yld x => exact absurd rfl hy
    | new b B => exact .inr ⟨B, rfl, fun _ _ => rfl⟩
    | wr b i v =>
      simp only [Eff.on, Eff.id]
      cases hb : s.box b with
      | none => exact .inl rfl
      | some B => exact .inr ⟨_, rfl, fun s' e => by simp [e]⟩
    | fro b n =>
      simp only [Eff.on, Eff.id]
      cases hb : s.box b with
      | none => exact .inl rfl
      | some B => exact .inr ⟨_, rfl, fun s' e => by simp [e]⟩
    | kill b =>
      simp only [Eff.on, Eff.id]
      cases hb : s.box b with
      | none => exact .inl rfl
      | some B => exact .inr ⟨_, rfl, fun s' e => by simp [e]⟩
  have nul : ∀ (e : Eff) (s s' : St), e.id ≠ YID → e.on s = s → s'.box e.id = s.box e.id → e.on s' = s' := by
    intro e s s' hy he hb
    cases e with
    | yld x => exact absurd rfl hy
    | new b B =>
      simp only [Eff.on, Eff.id] at he hb ⊢
      have : s.box b = some B := by rw [← he]; simp [St.setBox, upd_same]
      refine St.ext' rfl ?_ rfl rfl
      funext k
      simp only [St.setBox, upd]
      split
      · rename_i hk; subst hk; rw [hb, this]
      · rfl
    | wr b i v =>
      simp only [Eff.on, Eff.id] at he hb ⊢
      rw [hb]
      cases hs : s.box b with
      | none => rfl
      | some B =>
        rw [hs] at he
        have : s.box b = some { B with els := B.els.set i v } := by conv => lhs; rw [← he]; simp only [St.setBox, upd_same]
        rw [hs] at this
        simp only [Option.some.injEq] at this
        show St.setBox s' b _ = s'
        rw [← this]
        refine St.ext' rfl ?_ rfl rfl
        funext k
        simp only [St.setBox, upd]
        split
        · rename_i hk; subst hk; rw [hb, hs]
        · rfl
    | fro b n =>
      simp only [Eff.on, Eff.id] at he hb ⊢
      rw [hb]
      cases hs : s.box b with
      | none => rfl
      | some B =>
        rw [hs] at he
        have : s.box b = some { B with fro := max B.fro n, live := B.live && true } := by conv => lhs; rw [← he]; simp only [St.setBox, upd_same]
        rw [hs] at this
        simp only [Option.some.injEq] at this
        show St.setBox s' b _ = s'
        rw [← this]
        refine St.ext' rfl ?_ rfl rfl
        funext k
        simp only [St.setBox, upd]
        split
        · rename_i hk; subst hk; rw [hb, hs]
        · rfl
    | kill b =>
      simp only [Eff.on, Eff.id] at he hb ⊢
      rw [hb]
      cases hs : s.box b with
      | none => rfl
      | some B =>
        rw [hs] at he
        have : s.box b = some { B with fro := max B.fro B.els.length, live := B.live && false } := by conv => lhs; rw [← he]; simp only [St.setBox, upd_same]
        rw [hs] at this
        simp only [Option.some.injEq] at this
        show St.setBox s' b _ = s'
        rw [← this]
        refine St.ext' rfl ?_ rfl rfl
        funext k
        simp only [St.setBox, upd]
        split
        · rename_i hk; subst hk; rw [hb, hs]
        · rfl
  by_cases hid : e1.id = e2.id
  · -- both hold the same box
    obtain ⟨h1, h2⟩ := h.resolve_left (fun x => x hid)
    cases e1 with
    | fro b n =>
      cases e2 with
      | fro b' n' =>
        simp only [Eff.id] at hid
        subst hid
        simp only [Eff.on]
        cases hs : st.box b with
        | none => simp [hs]
        | some B =>
          simp only [St.setBox, upd_same]
          refine St.ext' rfl ?_ rfl rfl
          funext k
          simp only [upd]
          split
          · simp [Nat.max_comm, Nat.max_left_comm]
          · rfl
      | _ => simp [Eff.hard] at h2
    | _ => simp [Eff.hard] at h1
  · have o12 : (e1.on st).box e2.id = st.box e2.id := eff_other e1 st hid
    have o21 : (e2.on st).box e1.id = st.box e1.id := eff_other e2 st fun x => hid x.symm
    rcases form e1 st y1 with f1 | ⟨B1, f1, g1⟩
    · rw [f1]; exact nul e1 st _ y1 f1 o21
    · rcases form e2 st y2 with f2 | ⟨B2, f2, g2⟩
      · rw [f2]; exact (nul e2 st _ y2 f2 o12).symm
      · rw [g1 _ o21, g2 _ o12, f1, f2]
        exact St.ext' rfl (upd_comm _ _ _ fun x => hid x.symm) rfl rfl

theorem effs_comm1 (e : Eff) (y : e.id ≠ YID) : ∀ (es : List Eff) (st : St), (∀ x ∈ es, x.id ≠ YID) → (∀ x ∈ es, e.id ≠ x.id ∨ (e.hard = false ∧ x.hard = false)) → e.on (effsOn es st) = effsOn es (e.on st)
  | [], _, _, _ => rfl
  | x :: es, st, ys, h => by
    rw [effsOn_cons, effsOn_cons, effs_comm1 e y es _ (fun y hy => ys y (by simp [hy])) fun y hy => h y (by simp [hy]), eff_comm e x st y (ys x (by simp)) (h x (by simp))]
theorem effs_comm : ∀ (es fs : List Eff) (st : St), (∀ x ∈ es, x.id ≠ YID) → (∀ x ∈ fs, x.id ≠ YID) → (∀ e ∈ es, ∀ x ∈ fs, e.id ≠ x.id ∨ (e.hard = false ∧ x.hard = false)) → effsOn es (effsOn fs st) = effsOn fs (effsOn es st)
  | [], _, _, _, _, _ => rfl
  | e :: es, fs, st, ys, zs, h => by
    rw [effsOn_cons, effs_comm1 e (ys e (by simp)) fs st zs (h e (by simp)), effs_comm es fs _ (fun x hx => ys x (by simp [hx])) zs fun x hx => h x (by simp [hx]), effsOn_cons]

theorem eff_put (e : Eff) (st : St) (dst : Option Tmp) (v : PV) : e.on (st.put dst v) = (e.on st).put dst v := by
  cases dst with
  | none => rfl
  | some t =>
    have hb : ∀ b, (st.setVar t v).box b = st.box b := fun _ => rfl
    cases e with
    | new b B => rfl
    | yld x => rfl
    | _ b => simp only [Eff.on, St.put, hb]; cases st.box b <;> rfl
theorem effs_put (es : List Eff) (st : St) (dst : Option Tmp) (v : PV) : effsOn es (st.put dst v) = (effsOn es st).put dst v := by
  induction es generalizing st with
  | nil => rfl
  | cons e es ih => rw [effsOn_cons, effsOn_cons, ← ih, eff_put]

theorem put_comm (st : St) {d1 d2 : Option Tmp} (v1 v2 : PV) (h : ∀ t, d1 = some t → d2 ≠ some t) : (st.put d1 v1).put d2 v2 = (st.put d2 v2).put d1 v1 := by
  cases d1 with
  | none => rfl
  | some i =>
    cases d2 with
    | none => rfl
    | some j => exact St.ext' (upd_comm _ _ _ fun e => h i rfl (by rw [e])) rfl rfl rfl

theorem swap {P : Program} {tb : Tab} {ops : Array Oper} {st : St} {id1 id2 : Nat} {o1 o2 : Oper} {r1 r2 : Rec} (h1 : OpRun P tb ops st id1 o1 r1) (h2 : OpRun P tb ops (r1.on o1.dst st) id2 o2 r2)
    (ha : Apart ops o1 o2 r1.acc r2.acc) : OpRun P tb ops st id2 o2 r2 ∧ OpRun P tb ops (r2.on o2.dst st) id1 o1 r1 ∧ r2.on o2.dst (r1.on o1.dst st) = r1.on o1.dst (r2.on o2.dst st) := by
  have k2 : OpRun P tb ops st id2 o2 r2 := h2.frame ha.y2 (fun t ht => by
    simp only [Rec.on]
    rw [put_var_other _ _ fun e => ha.d1 t e ht, effs_var]) (agree_symm (agree_after h1 ha))
  have ha' : Apart ops o2 o1 r2.acc r1.acc := ⟨ha.d2, ha.d1, fun t e1 e2 => ha.dd t e2 e1, fun b x y hx hy => (ha.acc b y x hy hx).symm, ha.y2, ha.y1⟩
  have k1 : OpRun P tb ops (r2.on o2.dst st) id1 o1 r1 := h1.frame ha.y1 (fun t ht => by
    simp only [Rec.on]
    rw [put_var_other _ _ fun e => ha.d2 t e ht, effs_var]) (agree_after k2 ha')
  refine ⟨k2, k1, ?_⟩
  simp only [Rec.on, effs_put]
  rw [put_comm _ _ _ ha.dd, effs_comm _ _ _ (fun e he x => ha.y2 _ (by rw [← x]; exact h2.effs e he)) (fun e he x => ha.y1 _ (by rw [← x]; exact h1.effs e he))]
  intro e he x hx
  by_cases hb : e.id = x.id
  · right
    have := ha.acc x.id x.hard e.hard (h1.effs x hx) (by rw [← hb]; exact h2.effs e he)
    exact ⟨this.2, this.1⟩
  · exact .inl hb

end Go.Vl
