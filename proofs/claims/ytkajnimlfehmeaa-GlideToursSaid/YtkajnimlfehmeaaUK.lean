/-
  Calls, and one operation of a region.
-/
import Derived.Test.YtkajnimlfehmeaaUJ
set_option linter.unusedSimpArgs false
set_option linter.unusedVariables false
namespace Go.Vl
open Go.RowKit

def callable (P : Program) (f : FuncId) : Bool := match P.funcs[f]? with
  | some fn => fn.body.isSome && !(fn.name == "runtime.NumGoroutine")
  | none => false

def newIm (im : Im) (w w' : World) : Im := fun g j => im g j ∨ (w.heap.size ≤ g ∧ ∃ u, w'.cell? ⟨g, j, none⟩ = some u)

/-- What a call of a function hands back. -/
def SoundAt (P : Program) (f : FuncId) (args : List PV) (r : PV) : Prop :=
  callable P f = true ∧ ∀ (w : World) (im : Im) (us : List Value), RepL w im args us → (∀ g j, im g j → ∃ u, w.cell? ⟨g, j, none⟩ = some u) →
    Calls P f us.toArray w fun e w' => ∃ v, e = .returned v ∧ Below w.heap.size w w' ∧ Rep w' (newIm im w w') r v

/-- Boxes, and where they lie. -/
structure Boxes (own : Nat → Prop) (w : World) (im : Im) (ρ : Rho) (bx : Bx) : Prop where
  rho : ∀ b, ρ b = none ↔ bx b = none
  box : ∀ b x B, ρ b = some x → bx b = some B → BoxAt own w im ρ B x
  inj : ∀ b b' g B B', ρ b = some (some g) → ρ b' = some (some g) → bx b = some B → bx b' = some B' → B.live = true → B'.live = true → b = b'

/-- What a call of a function hands back, and what it does to boxes that it is lent. -/
def SoundB (P : Program) (f : FuncId) (args : List PV) (bxs : List (Nat × Box)) (r : PV) (bxs' : List (Nat × Box)) : Prop :=
  callable P f = true ∧ ∀ (w : World) (im : Im) (ρ : Rho) (us : List Value), (∀ g j, im g j → ∃ u, w.cell? ⟨g, j, none⟩ = some u) → Boxes (Own ρ) w im ρ (lkp bxs) → LRL w im ρ args us →
    Calls P f us.toArray w fun e w' => ∃ v ρ' im', e = .returned v ∧ Step ρ im w ρ' im' w' ∧ (∀ g j, im' g j → ∃ u, w'.cell? ⟨g, j, none⟩ = some u) ∧ Boxes (Own ρ') w' im' ρ' (lkp bxs') ∧
      (∀ b x x', ρ b = some x → ρ' b = some x' → x' = x) ∧ LR w' im' ρ' r v

def flat0 : PV → Bool
  | .bool _ | .int _ _ | .str _ | .nilS | .nilF => true
  | _ => false
def flat1 : PV → Bool
  | .agg cs => cs.all flat0
  | v => flat0 v
def flatPV : PV → Bool
  | .tup vs => vs.all flat1
  | v => flat1 v

theorem flat0_rep {w : World} {im im' : Im} {v : PV} {u : Value} (hf : flat0 v = true) (h : Rep w im v u) : Rep w im' v u := by
  cases h <;> first | (simp [flat0] at hf; done) | constructor
theorem flat0L_rep {w : World} {im im' : Im} : ∀ {vs : List PV} {us : List Value}, RepL w im vs us → vs.all flat0 = true → RepL w im' vs us
  | _, _, .nil, _ => .nil
  | _, _, .cons v u vs us h t, hf => by
    simp only [List.all_cons, Bool.and_eq_true] at hf
    exact .cons _ _ _ _ (flat0_rep hf.1 h) (flat0L_rep t hf.2)
theorem flat1_rep {w : World} {im im' : Im} {v : PV} {u : Value} (hf : flat1 v = true) (h : Rep w im v u) : Rep w im' v u := by
  cases v with
  | agg cs => cases h with | agg _ vs h => exact .agg _ _ (flat0L_rep h hf)
  | _ => exact flat0_rep hf h
theorem flat1L_rep {w : World} {im im' : Im} : ∀ {vs : List PV} {us : List Value}, RepL w im vs us → vs.all flat1 = true → RepL w im' vs us
  | _, _, .nil, _ => .nil
  | _, _, .cons v u vs us h t, hf => by
    simp only [List.all_cons, Bool.and_eq_true] at hf
    exact .cons _ _ _ _ (flat1_rep hf.1 h) (flat1L_rep t hf.2)
theorem flat_rep {w : World} {im im' : Im} {v : PV} {u : Value} (hf : flatPV v = true) (h : Rep w im v u) : Rep w im' v u := by
  cases v with
  | tup cs => cases h with | tup _ vs h => exact .tup _ _ (flat1L_rep h hf)
  | _ => exact flat1_rep hf h

def St.put (st : St) (dst : Option Tmp) (v : PV) : St := match dst with
  | some t => st.setVar t v
  | none => st

structure Rec where
  val : PV
  effs : List Eff
  acc : Acc

def Rec.on (r : Rec) (dst : Option Tmp) (st : St) : St := (effsOn r.effs st).put dst r.val

def guardTmp (ops : Array Oper) (o : Oper) : Option (Tmp × Bool) := match o.guard with
  | some (j, want) => match (ops[j]?).bind (·.dst) with
    | some t => some (t, want)
    | none => none
  | none => none

def wantedPV (ops : Array Oper) (o : Oper) (st : St) : Option Bool := match o.guard with
  | none => some true
  | some _ => match guardTmp ops o with
    | none => none
    | some (t, want) => match st.var t with
      | some (.bool b) => some (b == want)
      | some (.tup []) => some false
      | _ => none

def effAcc (es : List Eff) : Acc := es.map fun e => (e.id, e.hard)

/-- One operation. -/
inductive OpRun (P : Program) (tb : Tab) (ops : Array Oper) (st : St) (id : Nat) (o : Oper) : Rec → Prop
  | skip (h : wantedPV ops o st = some false) : OpRun P tb ops st id o ⟨.tup [], [], []⟩
  | done (h : wantedPV ops o st = some true) (vs : List PV) (hv : st.evs o.op.operands.toList = some vs) (v : PV) (es : List Eff) (l : Acc)
      (he : opVal P tb id o.op vs st.box = some (.done v es, l)) : OpRun P tb ops st id o ⟨v, es, l ++ effAcc es⟩
  | call (h : wantedPV ops o st = some true) (vs : List PV) (hv : st.evs o.op.operands.toList = some vs) (f : FuncId) (args : List PV) (es : List Eff) (l : Acc) (r : PV)
      (he : opVal P tb id o.op vs st.box = some (.call f args es, l)) (hs : SoundAt P f args r) : OpRun P tb ops st id o ⟨r, if flatPV r then [] else es, l ++ effAcc es⟩
  | callB (h : wantedPV ops o st = some true) (vs : List PV) (hv : st.evs o.op.operands.toList = some vs) (f : FuncId) (args : List PV) (bxs : List (Nat × Box)) (es : List Eff) (θ ν : List (Nat × Nat)) (l : Acc) (r : PV) (bxs' : List (Nat × Box))
      (r' : PV) (ef : List Eff) (he : opVal P tb id o.op vs st.box = some (.callB f args bxs es θ ν, l)) (hs : SoundB P f args bxs r bxs') (hl : land θ ν bxs' r = some (r', ef)) :
      OpRun P tb ops st id o ⟨r', (if flatB r bxs' then [] else es) ++ ef, l ++ effAcc es ++ effAcc ef⟩
  | yield (h : wantedPV ops o st = some true) (vs : List PV) (hv : st.evs o.op.operands.toList = some vs) (n stop : Nat) (args : List PV) (es : List Eff) (l : Acc)
      (he : opVal P tb id o.op vs st.box = some (.yield n stop args es, l)) (hy : st.yl = some (n, stop)) (hs : st.out.length ≤ stop) : OpRun P tb ops st id o ⟨.bool (decide (st.out.length < stop)), es ++ [.yld args], l ++ effAcc es ++ [(YID, true)]⟩

section
variable {C : Ctx} {st : St} {a : Act} {w : World} {o : Oper} {ops : Array Oper}

theorem Rel.put {ρ : Rho} {im : Im} (h : Rel' C st a w ρ im) {dst : Option Tmp} (hd : ∀ t, dst = some t → t < C.nt) {v : PV} {u : Value} (hv : LR w im ρ v u) : Rel C (st.put dst v) (a.put dst u) w := by
  cases dst with
  | none => exact ⟨ρ, im, h⟩
  | some t => exact ⟨ρ, im, h.setVar (hd t rfl) hv⟩

theorem wanted_sim {ρ : Rho} {im : Im} (h : Rel' C st a w ρ im) {b : Bool} (hw : wantedPV ops o st = some b) : Region.wanted o (yielded ops a.tmps) = b := by
  unfold wantedPV at hw
  unfold Region.wanted
  cases hg : o.guard with
  | none => rw [hg] at hw; cases hw; rfl
  | some p =>
    obtain ⟨j, want⟩ := p
    simp only [hg, guardTmp] at hw
    cases hd : (ops[j]?).bind (·.dst) with
    | none => rw [hd] at hw; cases hw
    | some t =>
      simp only [hd] at hw
      have hget : a.tmps.getD t undef = (a.tmps[t]?).getD undef := by simp
      split at hw
      · rename_i b0 hv
        cases hw
        have := (h.var t _ hv).bool_inv
        rw [hget] at this
        simp only [yielded, hd, Option.bind_some]
        cases ht : a.tmps[t]? with
        | none => rw [ht] at this; cases this
        | some x => rw [ht] at this; simp only [Option.getD_some] at this; subst this; cases b0 <;> cases want <;> rfl
      · rename_i hv
        cases hw
        obtain ⟨us, hu, hr⟩ := (h.var t _ hv).tup_inv
        cases hr.nil_inv
        rw [hget] at hu
        simp only [yielded, hd, Option.bind_some]
        cases ht : a.tmps[t]? with
        | none => cases want <;> rfl
        | some x => rw [ht] at hu; simp only [Option.getD_some] at hu; subst hu; cases want <;> rfl
      · cases hw

/-- An operation that does no call. -/
def Plain (m : M Out) : Prop := ∀ (bx : Bx) (x : Out) (l : Acc), m bx = some (x, l) → ∃ v es, x = .done v es
theorem Plain.done (v : PV) (es : List Eff) : Plain (M.pure (.done v es)) := fun _ _ _ h => ⟨v, es, (M.pure_some h).1⟩
theorem Plain.fail : Plain M.fail := fun _ _ _ h => by cases h
theorem Plain.bind {α : Type} {m : M α} {f : α → M Out} (h : ∀ a, Plain (f a)) : Plain (M.bind m f) := fun bx x l e => by
  obtain ⟨a, _, _, _, e2, _⟩ := M.bind_some e
  exact h a _ _ _ e2
theorem newVar_plain (id : Nat) (T : TypeId) (v : PV) : Plain (newVar id T v) := by
  unfold newVar
  repeat (first | exact Plain.done _ _ | (refine Plain.bind fun _ => ?_))
theorem slicePV_plain (P : Program) (t : TypeId) (x : PV) (lo hi : Option PV) : Plain (slicePV P t x lo hi) := by
  unfold slicePV
  split <;> repeat (first | exact Plain.done _ _ | exact Plain.fail | (refine Plain.bind fun _ => ?_) | split)
theorem appendPV_plain (P : Program) (id : Nat) (T T2 : TypeId) (s x : PV) : Plain (appendPV P id T T2 s x) := by
  unfold appendPV
  repeat (first | exact Plain.done _ _ | exact Plain.fail | (refine Plain.bind fun _ => ?_) | split)

theorem convM_plain (P : Program) (s d : TypeId) (x : PV) : Plain (convM P s d x) := by
  unfold convM
  cases convPV P s d x with
  | some v => exact Plain.done _ _
  | none =>
    refine Plain.bind fun _ => Plain.bind fun y => ?_
    cases y.1 <;> first | exact Plain.fail | (refine Plain.bind fun _ => ?_; exact Plain.done _ _)
theorem copyPV_plain (P : Program) (t : TypeId) (d x : PV) : Plain (copyPV P t d x) := by
  unfold copyPV
  refine Plain.bind fun _ => Plain.bind fun _ => Plain.bind fun y => ?_
  cases y.1 <;> first | exact Plain.fail | skip
  cases d <;> first | exact Plain.fail | skip
  refine Plain.bind fun _ => Plain.bind fun _ => Plain.bind fun _ => Plain.bind fun _ => Plain.done _ _
theorem clearPV_plain (P : Program) (t : TypeId) (d : PV) : Plain (clearPV P t d) := by
  unfold clearPV
  refine Plain.bind fun _ => Plain.bind fun _ => Plain.bind fun y => ?_
  cases d <;> first | exact Plain.fail | skip
  refine Plain.bind fun _ => Plain.bind fun _ => Plain.bind fun _ => Plain.bind fun _ => Plain.done _ _

/-- A call of a function. -/
inductive CallOf (tb : Tab) (id : Nat) (op : Op) (vs : List PV) (bx : Bx) : Out → Prop
  | call (fo : Operand) (as : Array Operand) (ts : Array TypeId) (f : FuncId) (first cap vargs : List PV) (x y z : List PV × List Eff) (l1 l2 l3 : Acc) (ho : op = .call ⟨.value fo, as, ts⟩) (hv : vs = .fn f first cap :: vargs)
      (h1 : escCL first bx = some (x, l1)) (h2 : esc1L vargs bx = some (y, l2)) (h3 : escCL cap bx = some (z, l3)) : CallOf tb id op vs bx (.call f (x.1 ++ y.1 ++ z.1) (x.2 ++ y.2 ++ z.2))
  | callB (fo : Operand) (as : Array Operand) (ts : Array TypeId) (f : FuncId) (first cap vargs : List PV) (θ ν : List (Nat × Nat)) (x : Out) (l : Acc) (ho : op = .call ⟨.value fo, as, ts⟩) (hv : vs = .fn f first cap :: vargs)
      (hx : lendCall θ ν f (first ++ vargs ++ cap) bx = some (x, l)) : CallOf tb id op vs bx x
  | yield (fo : Operand) (as : Array Operand) (ts : Array TypeId) (n stop : Nat) (vargs : List PV) (y : List PV × List Eff) (l1 : Acc) (ho : op = .call ⟨.value fo, as, ts⟩) (hv : vs = .yld n stop :: vargs)
      (h1 : esc1L vargs bx = some (y, l1)) : CallOf tb id op vs bx (.yield n stop y.1 y.2)

/-- A call, handed on. -/
theorem opVal_call {P : Program} {tb : Tab} {id : Nat} {op : Op} {vs : List PV} {bx : Bx} {x : Out} {l : Acc} (he : opVal P tb id op vs bx = some (x, l)) (hn : ∀ v es, x ≠ .done v es) : CallOf tb id op vs bx x := by
  generalize hm : opVal P tb id op vs = m at he
  unfold opVal at hm
  split at hm <;> subst hm
  case h_31 =>
    revert he
    cases lkp tb id with
    | none =>
      intro he
      obtain ⟨x, _, _, e1, e2, _⟩ := M.bind_some he
      obtain ⟨y, _, _, e3, e4, _⟩ := M.bind_some e2
      obtain ⟨z, _, _, e5, e6, _⟩ := M.bind_some e4
      obtain ⟨e7, _⟩ := M.pure_some e6
      subst e7
      exact .call _ _ _ _ _ _ _ x y z _ _ _ rfl rfl e1 e3 e5
    | some p =>
      intro he
      exact .callB _ _ _ _ _ _ _ p.1 p.2 x _ rfl rfl he
  case h_32 =>
    obtain ⟨_, _, _, e1, e2, _⟩ := M.bind_some he
    obtain ⟨y, _, _, e3, e4, _⟩ := M.bind_some e2
    obtain ⟨e7, _⟩ := M.pure_some e4
    subst e7
    exact .yield _ _ _ _ _ _ y _ rfl rfl e3
  all_goals
    exfalso
    refine (fun (h : Plain _) => by obtain ⟨v, es, e⟩ := h _ _ _ he; exact hn v es e) ?_
    repeat (first | exact Plain.done _ _ | exact Plain.fail | exact newVar_plain _ _ _ | exact slicePV_plain _ _ _ _ _ | exact appendPV_plain _ _ _ _ _ _ | exact convM_plain _ _ _ _ | exact copyPV_plain _ _ _ _ | exact clearPV_plain _ _ _ | (refine Plain.bind fun _ => ?_) | split)

end
end Go.Vl
