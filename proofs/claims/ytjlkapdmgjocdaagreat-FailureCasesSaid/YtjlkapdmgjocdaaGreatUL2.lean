/-
  UK, UL, UL2 (merged for the claim).
-/
import Derived.Test.YtjlkapdmgjocdaaGreatUJ
set_option linter.unusedSimpArgs false
set_option linter.unusedVariables false
namespace Go.Vl
open Go.RowKit
def callable (P:Program) (f:FuncId):Bool:=match P.funcs[f]? with
 |some fn=>fn.body.isSome&& !(fn.name== "runtime.NumGoroutine")
 |none=>false
def Qwg (im:Im) (w w':World):Im:=fun g j=>im g j∨(w.heap.size≤g∧ ∃u,w'.cell? ⟨g,j,none⟩=some u)
def Qpr:PV→Bool
 | .bool _| .int _ _| .str _| .nilS| .nilF| .nilI=>true
 |_=>false
def Qsj:PV→Bool
 | .agg cs=>cs.all Qpr
 |v=>Qpr v
def Qfr:PV→Bool
 | .tup vs=>vs.all Qsj
 |v=>Qsj v
def Qsk (P:Program) (f:FuncId) (args:List PV) (r:PV):Prop:=
 callable P f=true∧ ∀(w:World) (im:Im) (us:List Value) (F:Nat),F≤w.heap.size→Laid P F w→RepL w im args us→(∀g j,im g j→ ∃u,w.cell? ⟨g,j,none⟩=some u)→
  Calls P f us.toArray w fun e w'=> ∃v,e= .returned v∧Below w.heap.size w w'∧Rep w' (Qwg im w w') r v
def Qan (P:Program) (f:FuncId) (args:List PV) (r:PV):Prop:=
 Qsk P f args r∨(callable P f=false∧Qfr r=true∧ ∀(w:World) (im:Im) (us:List Value),RepL w im args us→ ∃v,(callFunc f us.toArray).run P w= .ok (.value v) w∧Rep w im r v)
structure Boxes (own:Nat→Prop) (w:World) (im:Im) (ρ:Rho) (bx:Bx):Prop where
 rho: ∀b,ρ b=none↔bx b=none
 box: ∀b x B,ρ b=some x→bx b=some B→Qb1 own w im ρ B x
 inj: ∀b b' g B B',ρ b=some (some g)→ρ b'=some (some g)→bx b=some B→bx b'=some B'→B.live=true→B'.live=true→b=b'
def Qdl (P:Program) (f:FuncId) (args:List PV) (bxs:List (Nat×Box)) (r:PV) (bxs':List (Nat×Box)):Prop:=
 callable P f=true∧ ∀(w:World) (im:Im) (ρ:Rho) (us:List Value) (F:Nat),F≤w.heap.size→Laid P F w→(∀g,Own ρ g→F≤g)→(∀g j,im g j→ ∃u,w.cell? ⟨g,j,none⟩=some u)→Boxes (Own ρ) w im ρ (lkp bxs)→LRL w im ρ args us→
  Calls P f us.toArray w fun e w'=> ∃v ρ' im',e= .returned v∧Step ρ im w ρ' im' w'∧(∀g j,im' g j→ ∃u,w'.cell? ⟨g,j,none⟩=some u)∧Boxes (Own ρ') w' im' ρ' (lkp bxs')∧
   (∀b x x',ρ b=some x→ρ' b=some x'→x'=x)∧LR w' im' ρ' r v
theorem Qlj {w:World} {im im':Im} {v:PV} {u:Value} (hf:Qpr v=true) (h:Rep w im v u):Rep w im' v u:=by
 cases h<;>first|(simp [Qpr]at hf;done)|constructor
theorem Qjh {w:World} {im im':Im}: ∀{vs:List PV} {us:List Value},RepL w im vs us→vs.all Qpr=true→RepL w im' vs us
 |_,_,.nil,_=> .nil
 |_,_,.cons v u vs us h t,hf=>by
  simp only [List.all_cons,Bool.and_eq_true]at hf
  exact .cons _ _ _ _ (Qlj hf.1 h) (Qjh t hf.2)
theorem Qlk {w:World} {im im':Im} {v:PV} {u:Value} (hf:Qsj v=true) (h:Rep w im v u):Rep w im' v u:=by
 cases v with
 |agg cs=>cases h with|agg _ vs h=>exact .agg _ _ (Qjh h hf)
 |_=>exact Qlj hf h
theorem Qji {w:World} {im im':Im}: ∀{vs:List PV} {us:List Value},RepL w im vs us→vs.all Qsj=true→RepL w im' vs us
 |_,_,.nil,_=> .nil
 |_,_,.cons v u vs us h t,hf=>by
  simp only [List.all_cons,Bool.and_eq_true]at hf
  exact .cons _ _ _ _ (Qlk hf.1 h) (Qji t hf.2)
theorem Qn4 {w:World} {im im':Im} {v:PV} {u:Value} (hf:Qfr v=true) (h:Rep w im v u):Rep w im' v u:=by
 cases v with
 |tup cs=>cases h with|tup _ vs h=>exact .tup _ _ (Qji h hf)
 |_=>exact Qlk hf h
def St.put (st:St) (dst:Option Tmp) (v:PV):St:=match dst with
 |some t=>st.setVar t v
 |none=>st
structure Rec where
 val:PV
 effs:List Eff
 acc:Acc
def Rec.on (r:Rec) (dst:Option Tmp) (st:St):St:=(Qaf r.effs st).put dst r.val
def Qfs (ops:Array Oper) (o:Oper):Option (Tmp×Bool):=match o.guard with
 |some (j,want)=>match(ops[j]?).bind (·.dst)with
  |some t=>some (t,want)
  |none=>none
 |none=>none
def Qbm (ops:Array Oper) (o:Oper) (st:St):Option Bool:=match o.guard with
 |none=>some true
 |some _=>match Qfs ops o with
  |none=>none
  |some (t,want)=>match st.var t with
   |some (.bool b)=>some (b==want)
   |some (.tup [])=>some false
   |_=>none
def Qbl (es:List Eff):Acc:=es.map fun e=>(e.id,e.hard)
inductive OpRun (P:Program) (tb:Tab) (ops:Array Oper) (st:St) (id:Nat) (o:Oper):Rec→Prop
 |skip (h:Qbm ops o st=some false):OpRun P tb ops st id o ⟨.tup [],[],[]⟩
 |done (h:Qbm ops o st=some true) (vs:List PV) (hv:st.evs o.op.operands.toList=some vs) (v:PV) (es:List Eff) (l:Acc)
   (he:Qao P tb id o.op vs st.box=some (.done v es,l)):OpRun P tb ops st id o ⟨v,es,l++Qbl es⟩
 |call (h:Qbm ops o st=some true) (vs:List PV) (hv:st.evs o.op.operands.toList=some vs) (f:FuncId) (args:List PV) (es:List Eff) (l:Acc) (r:PV)
   (he:Qao P tb id o.op vs st.box=some (.call f args es,l)) (hs:Qan P f args r):OpRun P tb ops st id o ⟨r,if Qfr r then []else es,l++Qbl es⟩
 |callB (h:Qbm ops o st=some true) (vs:List PV) (hv:st.evs o.op.operands.toList=some vs) (f:FuncId) (args:List PV) (bxs:List (Nat×Box)) (es:List Eff) (θ ν:List (Nat×Nat)) (l:Acc) (r:PV) (bxs':List (Nat×Box))
   (r':PV) (ef:List Eff) (he:Qao P tb id o.op vs st.box=some (.callB f args bxs es θ ν,l)) (hs:Qdl P f args bxs r bxs') (hl:land θ ν bxs' r=some (r',ef)):
   OpRun P tb ops st id o ⟨r',(if Qf2 r bxs' then []else es)++ef,l++Qbl es++Qbl ef⟩
 |yield (h:Qbm ops o st=some true) (vs:List PV) (hv:st.evs o.op.operands.toList=some vs) (n stop:Nat) (args:List PV) (es:List Eff) (l:Acc)
   (he:Qao P tb id o.op vs st.box=some (.yield n stop args es,l)) (hy:yOk st.yl n stop st.out args):OpRun P tb ops st id o ⟨.bool (decide (st.out.length<stop)),es++[.yld args],l++Qbl es++[(YID,true)]⟩
section
variable {C:Ctx} {st:St} {a:Act} {w:World} {o:Oper} {ops:Array Oper}
theorem Rel.put {ρ:Rho} {im:Im} (h:Rel' C st a w ρ im) {dst:Option Tmp} (hd: ∀t,dst=some t→t<C.nt) {v:PV} {u:Value} (hv:LR w im ρ v u):Rel C (st.put dst v) (a.put dst u) w:=by
 cases dst with
 |none=>exact⟨ρ,im,h⟩
 |some t=>exact⟨ρ,im,h.setVar (hd t rfl) hv⟩
theorem Qc2 {ρ:Rho} {im:Im} (h:Rel' C st a w ρ im) {b:Bool} (hw:Qbm ops o st=some b):Region.wanted o (yielded ops a.tmps)=b:=by
 unfold Qbm at hw
 unfold Region.wanted
 cases hg:o.guard with
 |none=>rw [hg]at hw;cases hw;rfl
 |some p=>
  obtain⟨j,want⟩:=p
  simp only [hg,Qfs]at hw
  cases hd:(ops[j]?).bind (·.dst)with
  |none=>rw [hd]at hw;cases hw
  |some t=>
   simp only [hd]at hw
   have hget:a.tmps.getD t undef=(a.tmps[t]?).getD undef:=by simp
   split at hw
   ·rename_i b0 hv
    cases hw
    have:=(h.var t _ hv).bool_inv
    rw [hget]at this
    simp only [yielded,hd,Option.bind_some]
    cases ht:a.tmps[t]? with
    |none=>rw [ht]at this;cases this
    |some x=>rw [ht]at this;simp only [Option.getD_some]at this;subst this;cases b0<;>cases want<;>rfl
   ·rename_i hv
    cases hw
    obtain⟨us,hu,hr⟩:=(h.var t _ hv).tup_inv
    cases hr.nil_inv
    rw [hget]at hu
    simp only [yielded,hd,Option.bind_some]
    cases ht:a.tmps[t]? with
    |none=>cases want<;>rfl
    |some x=>rw [ht]at hu;simp only [Option.getD_some]at hu;subst hu;cases want<;>rfl
   ·cases hw
def Plain (m:M Out):Prop:= ∀(bx:Bx) (x:Out) (l:Acc),m bx=some (x,l)→ ∃v es,x= .done v es
theorem Plain.done (v:PV) (es:List Eff):Plain (M.pure (.done v es)):=fun _ _ _ h=>⟨v,es,(M.pure_some h).1⟩
theorem Plain.fail:Plain M.fail:=fun _ _ _ h=>by cases h
theorem Plain.bind {α:Type} {m:M α} {f:α→M Out} (h: ∀a,Plain (f a)):Plain (M.bind m f):=fun bx x l e=>by
 obtain⟨a,_,_,_,e2,_⟩:=M.bind_some e
 exact h a _ _ _ e2
theorem Qll (id:Nat) (T:TypeId) (v:PV):Plain (newVar id T v):=by
 unfold newVar
 repeat (first|exact Plain.done _ _|(refine Plain.bind fun _=> ?_))
theorem Qkb (P:Program) (t:TypeId) (x:PV) (lo hi:Option PV):Plain (Qbo P t x lo hi):=by
 unfold Qbo
 split<;>repeat (first|exact Plain.done _ _|exact Plain.fail|(refine Plain.bind fun _=> ?_)|split)
theorem Qek (P:Program) (id:Nat) (T T2:TypeId) (s x:PV):Plain (Qb7 P id T T2 s x):=by
 unfold Qb7
 repeat (first|exact Plain.done _ _|exact Plain.fail|(refine Plain.bind fun _=> ?_)|split)
theorem Qlm (P:Program) (id T n:Nat) (parts:Array (Nat×Operand)) (vs:List PV):Plain (Qfi P id T n parts vs):=by
 unfold Qfi
 repeat (first|exact Plain.done _ _|exact Plain.fail|(refine Plain.bind fun _=> ?_))
theorem Qkc (P:Program) (id:Nat) (T T2:TypeId) (s x:PV):Plain (appendD P id T T2 s x):=by
 unfold appendD
 repeat (first|exact Plain.done _ _|exact Plain.fail|(refine Plain.bind fun _=> ?_)|split)
theorem Qmv (P:Program) (s d:TypeId) (x:PV):Plain (Qj4 P s d x):=by
 unfold Qj4
 cases Qhz P s d x with
 |some v=>exact Plain.done _ _
 |none=>
  refine Plain.bind fun _=>Plain.bind fun y=> ?_
  cases y.1<;>first|exact Plain.fail|(refine Plain.bind fun _=> ?_;exact Plain.done _ _)
theorem Qln (P:Program) (t:TypeId) (d x:PV):Plain (Qfj P t d x):=by
 unfold Qfj
 refine Plain.bind fun _=>Plain.bind fun _=>Plain.bind fun y=> ?_
 cases y.1<;>first|exact Plain.fail|skip
 cases d<;>first|exact Plain.fail|skip
 refine Plain.bind fun _=>Plain.bind fun _=>Plain.bind fun _=>Plain.bind fun _=>Plain.done _ _
theorem Qlo (P:Program) (id:Nat) (T:TypeId):Plain (Qgl P id T):=by
 unfold Qgl
 repeat (first|exact Plain.done _ _|exact Plain.fail|(refine Plain.bind fun _=> ?_))
theorem Qlp (P:Program) (T:TypeId) (b:Nat) (k:PV) (ok:Bool):Plain (Qgm P T b k ok):=by
 unfold Qgm
 repeat (first|exact Plain.done _ _|exact Plain.fail|(refine Plain.bind fun _=> ?_))
theorem Qlq (P:Program) (T:TypeId) (b:Nat) (k v:PV):Plain (Qei P T b k v):=by
 unfold Qei
 repeat (first|exact Plain.done _ _|exact Plain.fail|(refine Plain.bind fun _=> ?_)|split)
theorem Qlr (P:Program) (T:TypeId) (b:Nat) (k:PV):Plain (Qgn P T b k):=by
 unfold Qgn
 repeat (first|exact Plain.done _ _|exact Plain.fail|(refine Plain.bind fun _=> ?_)|split)
theorem Qls (b:Nat) (n:Int) (v:PV):Plain (Qgo b n v):=by
 unfold Qgo
 repeat (first|exact Plain.done _ _|exact Plain.fail|(refine Plain.bind fun _=> ?_))
theorem Qlt (P:Program) (id:Nat) (o:Op) (vs:List PV):Plain (Qfk P id o vs):=by
 unfold Qfk
 split<;>first|with_reducible exact Qlo _ _ _|with_reducible exact Qlp _ _ _ _ _|with_reducible exact Qlq _ _ _ _ _|with_reducible exact Qlr _ _ _ _|with_reducible exact Qls _ _ _|with_reducible exact Plain.fail
theorem Qkd (P:Program) (t:TypeId) (d:PV):Plain (Qda P t d):=by
 unfold Qda
 refine Plain.bind fun _=>Plain.bind fun _=>Plain.bind fun y=> ?_
 cases d<;>first|exact Plain.fail|skip
 refine Plain.bind fun _=>Plain.bind fun _=>Plain.bind fun _=>Plain.bind fun _=>Plain.done _ _
inductive CallOf (tb:Tab) (id:Nat) (op:Op) (vs:List PV) (bx:Bx):Out→Prop
 |call (fo:Operand) (asx:Array Operand) (ts:Array TypeId) (f:FuncId) (first cap vargs:List PV) (x y z:List PV×List Eff) (l1 l2 l3:Acc) (ho:op= .call ⟨.value fo,asx,ts⟩) (hv:vs= .fn f first cap::vargs)
   (h1:Qdo first bx=some (x,l1)) (h2:Qdt vargs bx=some (y,l2)) (h3:Qdo cap bx=some (z,l3)):CallOf tb id op vs bx (.call f (x.1++y.1++z.1) (x.2++y.2++z.2))
 |callB (fo:Operand) (asx:Array Operand) (ts:Array TypeId) (f:FuncId) (first cap vargs:List PV) (θ ν:List (Nat×Nat)) (x:Out) (l:Acc) (ho:op= .call ⟨.value fo,asx,ts⟩) (hv:vs= .fn f first cap::vargs)
   (hx:Qc9 θ ν f (first++vargs++cap) bx=some (x,l)):CallOf tb id op vs bx x
 |yield (fo:Operand) (asx:Array Operand) (ts:Array TypeId) (n stop:Nat) (vargs:List PV) (y:List PV×List Eff) (l1:Acc) (ho:op= .call ⟨.value fo,asx,ts⟩) (hv:vs= .yld n stop::vargs)
   (h1:Qdt vargs bx=some (y,l1)):CallOf tb id op vs bx (.yield n stop y.1 y.2)
theorem Qga {P:Program} {tb:Tab} {id:Nat} {op:Op} {vs:List PV} {bx:Bx} {x:Out} {l:Acc} (he:Qao P tb id op vs bx=some (x,l)) (hn: ∀v es,x≠ .done v es):CallOf tb id op vs bx x:=by
 generalize hm:Qao P tb id op vs=m at he
 unfold Qao at hm
 split at hm<;>subst hm
 case h_31=>
  revert he
  cases lkp tb id with
  |none=>
   intro he
   obtain⟨x,_,_,e1,e2,_⟩:=M.bind_some he
   obtain⟨y,_,_,e3,e4,_⟩:=M.bind_some e2
   obtain⟨z,_,_,e5,e6,_⟩:=M.bind_some e4
   obtain⟨e7,_⟩:=M.pure_some e6
   subst e7
   exact .call _ _ _ _ _ _ _ x y z _ _ _ rfl rfl e1 e3 e5
  |some p=>
   intro he
   exact .callB _ _ _ _ _ _ _ p.1 p.2 x _ rfl rfl he
 case h_32=>
  obtain⟨_,_,_,e1,e2,_⟩:=M.bind_some he
  obtain⟨y,_,_,e3,e4,_⟩:=M.bind_some e2
  obtain⟨e7,_⟩:=M.pure_some e4
  subst e7
  exact .yield _ _ _ _ _ _ y _ rfl rfl e3
 case h_8=>
  exfalso
  refine(fun(h:Plain _)=>by obtain⟨v,es,e⟩:=h _ _ _ he;exact hn v es e) ?_
  cases lkp tb id with
  |none=>repeat (first|exact Plain.done _ _|exact Plain.fail|(refine Plain.bind fun _=> ?_))
  |some p=>exact Qlm _ _ _ _ _ _
 case h_28=>
  exfalso
  refine(fun(h:Plain _)=>by obtain⟨v,es,e⟩:=h _ _ _ he;exact hn v es e) ?_
  refine Plain.bind fun _=>Plain.bind fun _=>Plain.bind fun _=> ?_
  cases lkp tb id with
  |none=>exact Qek _ _ _ _ _ _
  |some p=>exact Qkc _ _ _ _ _ _
 all_goals
  exfalso
  refine(fun(h:Plain _)=>by obtain⟨v,es,e⟩:=h _ _ _ he;exact hn v es e) ?_
  repeat (first|exact Plain.done _ _|exact Plain.fail|exact Qll _ _ _|exact Qkb _ _ _ _ _|exact Qek _ _ _ _ _ _|exact Qmv _ _ _ _|exact Qln _ _ _ _|exact Qkd _ _ _|exact Qlt _ _ _ _|(refine Plain.bind fun _=> ?_)|split)
end
end Go.Vl

namespace Go.Vl
def Qcg (l:Acc) (bx bx':Bx):Prop:= ∀p∈l,if p.2 then bx p.1=bx' p.1 else(bx p.1).map Box.soft=(bx' p.1).map Box.soft
theorem Qcg.append {l l':Acc} {bx bx':Bx} (h:Qcg (l++l') bx bx'):Qcg l bx bx'∧Qcg l' bx bx':=
 ⟨fun p hp=>h p (List.mem_append_left _ hp),fun p hp=>h p (List.mem_append_right _ hp)⟩
def Framed {α:Type} (m:M α):Prop:= ∀(bx bx':Bx) (x:α) (l:Acc),m bx=some (x,l)→Qcg l bx bx'→m bx'=some (x,l)
theorem Framed.pure {α:Type} (a:α):Framed (M.pure a):=fun _ _ _ _ h _=>h
theorem Framed.fail {α:Type}:Framed (M.fail:M α):=fun _ _ _ _ h _=>by cases h
theorem Framed.ofOpt {α:Type} (x:Option α):Framed (M.ofOpt x):=fun _ _ _ _ h _=>h
theorem Framed.ok (c:Bool):Framed (M.ok c):=fun _ _ _ _ h _=>h
theorem Framed.soft (b:Nat):Framed (M.soft b):=by
 intro bx bx' x l h ha
 obtain⟨B,hB,rfl,rfl⟩:=M.soft_some h
 have:=ha (b,false) (by simp)
 simp only [Bool.false_eq_true,if_false,hB]at this
 unfold M.soft
 cases hb:bx' b with
 |none=>rw [hb]at this;cases this
 |some B'=>rw [hb]at this;simp at this;simp [this]
theorem Framed.hard (b:Nat):Framed (M.hard b):=by
 intro bx bx' x l h ha
 obtain⟨rfl,rfl⟩:=M.hard_some h
 have:=ha (b,true) (by simp)
 simp only [if_true]at this
 simp [M.hard,this]
theorem Framed.bind {α β:Type} {m:M α} {f:α→M β} (h:Framed m) (k: ∀a,Framed (f a)):Framed (M.bind m f):=by
 intro bx bx' x l e ha
 obtain⟨a,l1,l2,e1,e2,rfl⟩:=M.bind_some e
 obtain⟨a1,a2⟩:=ha.append
 simp [M.bind,h bx bx' a l1 e1 a1,k a bx bx' x l2 e2 a2]
theorem Qde (v:PV):Framed (escS v):=by
 unfold escS
 split<;>repeat (first|exact Framed.pure _|exact Framed.fail|exact Framed.soft _|exact Framed.ok _|(refine Framed.bind ?_ fun _=> ?_))
theorem Qgt: ∀vs:List PV,Framed (Qr3 vs)
 | []=>Framed.pure _
 |v::vs=>Framed.bind (Qde v) fun _=>Framed.bind (Qgt vs) fun _=>Framed.pure _
theorem Qmw (v:PV):Framed (escE v):=by
 unfold escE
 split
 ·exact Framed.bind (Qgt _) fun _=>Framed.pure _
 ·exact Qde _
theorem Qgu: ∀vs:List PV,Framed (Qo9 vs)
 | []=>Framed.pure _
 |v::vs=>Framed.bind (Qmw v) fun _=>Framed.bind (Qgu vs) fun _=>Framed.pure _
theorem Qbz (v:PV):Framed (esc0 v):=by
 unfold esc0
 split
 ·refine Framed.bind (Framed.soft _) fun B=> ?_
  split
  ·exact Qde _
  ·exact Framed.bind (Framed.ok _) fun _=>Framed.bind (Qgu _) fun _=>Framed.pure _
 ·exact Qde _
theorem Qdf: ∀vs:List PV,Framed (escL vs)
 | []=>Framed.pure _
 |v::vs=>Framed.bind (Qbz v) fun _=>Framed.bind (Qdf vs) fun _=>Framed.pure _
theorem Qco (v:PV):Framed (escC v):=by
 unfold escC
 split<;>repeat (first|exact Framed.pure _|exact Framed.fail|exact Framed.soft _|exact Framed.ok _|exact Framed.ofOpt _|exact Qdf _|exact Qbz _|(refine Framed.bind ?_ fun _=> ?_))
theorem Qd1: ∀vs:List PV,Framed (Qdo vs)
 | []=>Framed.pure _
 |v::vs=>Framed.bind (Qco v) fun _=>Framed.bind (Qd1 vs) fun _=>Framed.pure _
theorem Qdg (v:PV):Framed (esc1 v):=by
 unfold esc1
 split<;>repeat (first|exact Framed.pure _|exact Framed.fail|exact Qdf _|exact Qd1 _|exact Qco _|(refine Framed.bind ?_ fun _=> ?_))
theorem Qd2: ∀vs:List PV,Framed (Qdt vs)
 | []=>Framed.pure _
 |v::vs=>Framed.bind (Qdg v) fun _=>Framed.bind (Qd2 vs) fun _=>Framed.pure _
theorem Qlu (P:Program) (s d:TypeId) (x:PV):Framed (Qj4 P s d x):=by
 unfold Qj4
 cases Qhz P s d x with
 |some v=>exact Framed.pure _
 |none=>
  refine Framed.bind (Framed.ok _) fun _=>Framed.bind (Qbz _) fun y=> ?_
  cases y.1<;>first|exact Framed.fail|(refine Framed.bind (Framed.ofOpt _) fun _=> ?_;exact Framed.pure _)
theorem Qke (P:Program) (t:TypeId) (d x:PV):Framed (Qfj P t d x):=by
 unfold Qfj
 refine Framed.bind (Framed.ofOpt _) fun _=>Framed.bind (Framed.ofOpt _) fun _=>Framed.bind (Qbz _) fun y=> ?_
 cases y.1<;>first|exact Framed.fail|skip
 cases d<;>first|exact Framed.fail|skip
 refine Framed.bind (Framed.hard _) fun _=>Framed.bind (Framed.ofOpt _) fun _=>Framed.bind (Framed.ok _) fun _=>Framed.bind (Framed.ok _) fun _=>Framed.pure _
theorem Qi0 (P:Program) (t:TypeId) (d:PV):Framed (Qda P t d):=by
 unfold Qda
 refine Framed.bind (Framed.ofOpt _) fun _=>Framed.bind (Framed.ofOpt _) fun _=>Framed.bind (Framed.ofOpt _) fun y=> ?_
 cases d<;>first|exact Framed.fail|skip
 refine Framed.bind (Framed.hard _) fun _=>Framed.bind (Framed.ofOpt _) fun _=>Framed.bind (Framed.ok _) fun _=>Framed.bind (Framed.ok _) fun _=>Framed.pure _
theorem Qlv (θ:List (Nat×Nat)) (v:PV):Framed (Qpb θ v):=by
 unfold Qpb
 split
 ·split<;>first|exact Framed.pure _|exact Qco _
 ·split<;>first|exact Framed.pure _|exact Qco _
 ·exact Qco _
theorem Qdh (θ:List (Nat×Nat)): ∀vs:List PV,Framed (Qjb θ vs)
 | []=>Framed.pure _
 |v::vs=>Framed.bind (Qlv θ v) fun _=>Framed.bind (Qdh θ vs) fun _=>Framed.pure _
theorem Qlw (θ:List (Nat×Nat)) (v:PV):Framed (Qpc θ v):=by
 unfold Qpc
 split
 ·split<;>first|exact Framed.pure _|exact Qdg _
 ·split<;>first|exact Framed.pure _|exact Qdg _
 ·exact Framed.bind (Qdh _ _) fun _=>Framed.bind (Qdh _ _) fun _=>Framed.pure _
 ·exact Framed.pure _
 ·exact Qdg _
theorem Qgv (θ:List (Nat×Nat)): ∀vs:List PV,Framed (Qr4 θ vs)
 | []=>Framed.pure _
 |v::vs=>Framed.bind (Qlw θ v) fun _=>Framed.bind (Qgv θ vs) fun _=>Framed.pure _
theorem Qdm (θF:List (Nat×Nat)): ∀θ:List (Nat×Nat),Framed (Qdw θF θ)
 | []=>Framed.pure _
 |_::θ=>Framed.bind (Framed.hard _) fun _=>Framed.bind (Framed.ofOpt _) fun _=>Framed.bind (Framed.ok _) fun _=>Framed.bind (Framed.ofOpt _) fun _=>Framed.bind (Qdm θF θ) fun _=>Framed.pure _
theorem Qel: ∀ν:List (Nat×Nat),Framed (Qhy ν)
 | []=>Framed.pure _
 |_::ν=>Framed.bind (Framed.hard _) fun _=>Framed.bind (Framed.ok _) fun _=>Qel ν
theorem Qib (θ ν:List (Nat×Nat)) (f:FuncId) (args:List PV):Framed (Qc9 θ ν f args):=
 Framed.bind (Qgv _ _) fun _=>Framed.bind (Qdm _ _) fun _=>Framed.bind (Qel _) fun _=>Framed.bind (Framed.ok _) fun _=>Framed.pure _
theorem Qkf (id:Nat) (T:TypeId) (v:PV):Framed (newVar id T v):=by
 unfold newVar
 repeat (first|exact Framed.pure _|exact Framed.hard _|exact Framed.ok _|(refine Framed.bind ?_ fun _=> ?_))
theorem Qi1 (P:Program) (t:TypeId) (x:PV) (lo hi:Option PV):Framed (Qbo P t x lo hi):=by
 unfold Qbo
 split<;>repeat (first|exact Framed.pure _|exact Framed.fail|exact Framed.soft _|exact Framed.ok _|exact Framed.ofOpt _|(refine Framed.bind ?_ fun _=> ?_)|split)
theorem Qkg (P:Program) (id T n:Nat) (parts:Array (Nat×Operand)) (vs:List PV):Framed (Qfi P id T n parts vs):=by
 unfold Qfi
 repeat (first|exact Framed.pure _|exact Framed.fail|exact Framed.soft _|exact Framed.hard _|exact Framed.ok _|exact Framed.ofOpt _|(refine Framed.bind ?_ fun _=> ?_))
theorem Qi2 (P:Program) (id:Nat) (T T2:TypeId) (s x:PV):Framed (appendD P id T T2 s x):=by
 unfold appendD
 repeat (first|exact Framed.pure _|exact Framed.fail|exact Framed.soft _|exact Framed.hard _|exact Framed.ok _|exact Framed.ofOpt _|(refine Framed.bind ?_ fun _=> ?_)|split)
theorem Qic (P:Program) (id:Nat) (T T2:TypeId) (s x:PV):Framed (Qb7 P id T T2 s x):=by
 unfold Qb7
 repeat (first|exact Framed.pure _|exact Framed.fail|exact Framed.soft _|exact Framed.hard _|exact Framed.ok _|exact Framed.ofOpt _|exact Qbz _|(refine Framed.bind ?_ fun _=> ?_)|split)
theorem Qkh (P:Program) (id:Nat) (T:TypeId):Framed (Qgl P id T):=by
 unfold Qgl
 repeat (first|exact Framed.pure _|exact Framed.hard _|exact Framed.ok _|exact Framed.ofOpt _|(refine Framed.bind ?_ fun _=> ?_))
theorem Qki (P:Program) (T:TypeId) (b:Nat) (k:PV) (ok:Bool):Framed (Qgm P T b k ok):=by
 unfold Qgm
 repeat (first|exact Framed.pure _|exact Framed.hard _|exact Framed.ok _|exact Framed.ofOpt _|(refine Framed.bind ?_ fun _=> ?_))
theorem Qkj (P:Program) (T:TypeId) (b:Nat) (k v:PV):Framed (Qei P T b k v):=by
 unfold Qei
 repeat (first|exact Framed.pure _|exact Framed.fail|exact Framed.hard _|exact Framed.ok _|exact Framed.ofOpt _|exact Qbz _|(refine Framed.bind ?_ fun _=> ?_)|split)
theorem Qkk (P:Program) (T:TypeId) (b:Nat) (k:PV):Framed (Qgn P T b k):=by
 unfold Qgn
 repeat (first|exact Framed.pure _|exact Framed.fail|exact Framed.hard _|exact Framed.ok _|exact Framed.ofOpt _|(refine Framed.bind ?_ fun _=> ?_)|split)
theorem Qkl (b:Nat) (n:Int) (v:PV):Framed (Qgo b n v):=by
 unfold Qgo
 repeat (first|exact Framed.pure _|exact Framed.fail|exact Framed.hard _|exact Framed.ok _|exact Framed.ofOpt _|exact Qbz _|(refine Framed.bind ?_ fun _=> ?_))
theorem Qkm (P:Program) (id:Nat) (o:Op) (vs:List PV):Framed (Qfk P id o vs):=by
 unfold Qfk
 split<;>first|with_reducible exact Qkh _ _ _|with_reducible exact Qki _ _ _ _ _|with_reducible exact Qkj _ _ _ _ _|with_reducible exact Qkk _ _ _ _|with_reducible exact Qkl _ _ _|with_reducible exact Framed.fail
theorem Qd3 (P:Program) (tb:Tab) (id:Nat) (o:Op) (vs:List PV):Framed (Qao P tb id o vs):=by
 unfold Qao
 split
 case h_8=>
  cases lkp tb id with
  |none=>repeat (first|exact Framed.pure _|exact Framed.hard _|exact Framed.ok _|exact Framed.ofOpt _|exact Qd2 _|(refine Framed.bind ?_ fun _=> ?_))
  |some p=>exact Qkg _ _ _ _ _ _
 case h_28=>
  refine Framed.bind (Framed.ofOpt _) fun _=>Framed.bind (Framed.ofOpt _) fun _=>Framed.bind (Framed.ok _) fun _=> ?_
  cases lkp tb id with
  |none=>exact Qic _ _ _ _ _ _
  |some p=>exact Qi2 _ _ _ _ _ _
 all_goals repeat (first|exact Framed.pure _|exact Framed.fail|exact Framed.soft _|exact Framed.hard _|exact Framed.ok _|exact Framed.ofOpt _|exact Qdf _|exact Qd2 _|exact Qd1 _|exact Qkf _ _ _|exact Qi1 _ _ _ _ _|exact Qib _ _ _ _|exact Qlu _ _ _ _|exact Qke _ _ _ _|exact Qi0 _ _ _|exact Qkm _ _ _ _|(refine Framed.bind ?_ fun _=> ?_)|split)
end Go.Vl

namespace Go.Vl
open Go.RowKit

theorem Qbn {α:Type}: ∀{l:List (Nat×α)} {k:Nat} {v:α},lkp l k=some v→(k,v)∈l
  | [],_,_,h=>by cases h
  |(j,x)::l,k,v,h=>by
    unfold lkp at h
    split at h
    · rename_i e;cases h;simp [e]
    · exact List.mem_cons_of_mem _ (Qbn h)
theorem Qmx {α:Type}: ∀{l:List (Nat×α)} {k:Nat} {v:α},(k,v)∈l→ ∃u,lkp l k=some u
  |(j,x)::l,k,v,h=>by
    unfold lkp
    split
    · exact⟨x,rfl⟩
    · rename_i hne
      rcases List.mem_cons.1 h with e|e
      · cases e;exact absurd rfl hne
      · exact Qmx e
theorem Qgb {α:Type}: ∀(l m:List (Nat×α)) (k:Nat),lkp (l++m) k=match lkp l k with|some v=>some v|none=>lkp m k
  | [],_,_=>rfl
  |(j,x)::l,m,k=>by
    simp only [List.cons_append,lkp]
    split
    · rfl
    · exact Qgb l m k
theorem Qid: ∀{l:List (Nat×Nat)} {b b':Nat},rlk l b=some b'→(b',b)∈l
  | [],_,_,h=>by cases h
  |(j,x)::l,k,v,h=>by
    unfold rlk at h
    split at h
    · rename_i e;cases h;simp [e]
    · exact List.mem_cons_of_mem _ (Qid h)

theorem Qcb {κ:List (Nat×Nat)} (h:Qg6 κ=true) {b' b:Nat} (hm:(b',b)∈κ):lkp κ b'=some b∧rlk κ b=some b':=by
  have:=List.all_eq_true.1 h _ hm
  simpa using this
theorem Qba {κ:List (Nat×Nat)} (h:Qg6 κ=true) {b' b:Nat}:lkp κ b'=some b↔rlk κ b=some b':=
  ⟨fun e=>(Qcb h (Qbn e)).2,fun e=>(Qcb h (Qid e)).1⟩

section
variable {w:World} {im im2:Im} {ρ ρ2:Rho} {κ:List (Nat×Nat)}

theorem Qn5 (hρ: ∀b c x,lkp κ b=some c→ρ b=some x→ρ2 c=some x) {v v':PV} {u:Value} (hr:ren0 κ v=some v') (h:LR w im ρ v u):LR w im ρ2 v' u:=by
  unfold ren0 at hr
  split at hr
  · rename_i b esz i off
    split at hr
    · rename_i c hb
      cases hr
      obtain⟨g,hg,rfl⟩:=h.bp_inv
      exact .bp _ _ _ _ g _ (hρ _ _ _ hb hg) rfl
    · cases hr
  · rename_i b esz off len
    split at hr
    · rename_i c hb
      cases hr
      rcases h.bs_inv with⟨e,⟨x,rfl⟩,rfl,rfl⟩|⟨g,cap,cur,e,hg,rfl,ho,hc,hl,hm⟩
      · exact .bsNil _ _ x (hρ _ _ _ hb e)
      · exact .bs _ _ _ _ g _ cap cur e (hρ _ _ _ hb hg) ho rfl hc hl hm
    · cases hr
  · rename_i b
    split at hr
    · rename_i c hb
      cases hr
      obtain⟨g,hg,rfl⟩:=h.mp_inv
      exact .mp _ g (hρ _ _ _ hb hg)
    · cases hr
  · cases hr
    obtain⟨a,b,rfl,h1,h2⟩:=h.fn_inv
    cases h1.nil_inv;cases h2.nil_inv
    exact .ext _ _ (.fn _ [] [] [] [] .nil .nil)
  · cases hr
  · cases hr
  · cases hr
  · rename_i n1 n2 n3 n4 n5 n6 n7
    cases hr
    cases h with
    |ext _ _ h=>exact .ext _ _ h
    |undef u=>exact .undef u
    |bp=>exact absurd rfl (n1 _ _ _ _)
    |bsNil=>exact absurd rfl (n2 _ _ _ _)
    |bs=>exact absurd rfl (n2 _ _ _ _)
    |mp=>exact absurd rfl (n3 _)
    |agg=>exact absurd rfl (n6 _)
    |tup=>exact absurd rfl (n7 _)
    |fn=>exact absurd rfl (n5 _ _ _)
theorem Qft (hρ: ∀b c x,lkp κ b=some c→ρ b=some x→ρ2 c=some x): ∀{vs vs':List PV} {us:List Value},Qae κ vs=some vs'→LRL w im ρ vs us→LRL w im ρ2 vs' us
  | [],vs',us,hr,h=>by simp [Qae]at hr;subst hr;cases h.nil_inv;exact .nil
  |v::vs,vs',us,hr,h=>by
    unfold Qae at hr
    split at hr
    · cases hr
    · rename_i x hx
      split at hr
      · cases hr
      · rename_i xs hxs
        cases hr
        obtain⟨u,us',rfl,h1,h2⟩:=h.cons_inv
        exact .cons _ _ _ _ (Qn5 hρ hx h1) (Qft hρ hxs h2)
theorem Qn6 (hρ: ∀b c x,lkp κ b=some c→ρ b=some x→ρ2 c=some x) {v v':PV} {u:Value} (hr:ren1 κ v=some v') (h:LR w im ρ v u):LR w im ρ2 v' u:=by
  unfold ren1 at hr
  split at hr
  · split at hr
    · rename_i xs hxs
      cases hr
      obtain⟨us,rfl,h1⟩:=h.agg_inv
      exact .agg _ _ (Qft hρ hxs h1)
    · cases hr
  · cases hr
    obtain⟨us,rfl,h1⟩:=h.tup_inv
    cases h1.nil_inv
    exact .ext _ _ (.tup [] [] .nil)
  · split at hr
    · cases hr
    · rename_i x hx
      split at hr
      · cases hr
      · rename_i y hy
        cases hr
        obtain⟨a,b,rfl,h1,h2⟩:=h.fn_inv
        exact .fn _ _ _ _ _ (Qft hρ hx h1) (Qft hρ hy h2)
  · exact Qn5 hρ hr h
theorem Qlx (hρ: ∀b c x,lkp κ b=some c→ρ b=some x→ρ2 c=some x): ∀{vs vs':List PV} {us:List Value},Qpa κ vs=some vs'→LRL w im ρ vs us→LRL w im ρ2 vs' us
  | [],vs',us,hr,h=>by simp [Qpa]at hr;subst hr;cases h.nil_inv;exact .nil
  |v::vs,vs',us,hr,h=>by
    unfold Qpa at hr
    split at hr
    · cases hr
    · rename_i x hx
      split at hr
      · cases hr
      · rename_i xs hxs
        cases hr
        obtain⟨u,us',rfl,h1,h2⟩:=h.cons_inv
        exact .cons _ _ _ _ (Qn6 hρ hx h1) (Qlx hρ hxs h2)
theorem Qn7 (hρ: ∀b c x,lkp κ b=some c→ρ b=some x→ρ2 c=some x) {v v':PV} {u:Value} (hr:ren2 κ v=some v') (h:LR w im ρ v u):LR w im ρ2 v' u:=by
  unfold ren2 at hr
  split at hr
  · split at hr
    · rename_i xs hxs
      cases hr
      obtain⟨us,rfl,h1⟩:=h.tup_inv
      exact .tup _ _ (Qlx hρ hxs h1)
    · cases hr
  · exact Qn6 hρ hr h

/-! ### what is flat is so whatever is held -/
theorem Qly {v:PV} {u:Value} (hf:flatc v=true) (h:LR w im ρ v u):Rep w im2 v u:=by
  cases v<;>first
    |(simp [flatc]at hf;done)
    |(cases h with|ext _ _ h=>cases h<;>constructor)
theorem Qjj: ∀{vs:List PV} {us:List Value},vs.all flatc=true→LRL w im ρ vs us→RepL w im2 vs us
  | [],_,_,.nil=> .nil
  |v::vs,_,hf,.cons _ u _ us h t=>by
    simp only [List.all_cons,Bool.and_eq_true]at hf
    exact .cons _ _ _ _ (Qly hf.1 h) (Qjj hf.2 t)
theorem Qlz {v:PV} {u:Value} (hf:Qlb v=true) (h:LR w im ρ v u):LR w im2 ρ v u:=by
  cases v with
  |bs b e o l=>
    rcases h.bs_inv with⟨e1,⟨x,rfl⟩,rfl,rfl⟩|⟨g,cap,cur,e1,hg,rfl,ho,hc,hl,hm⟩
    · exact .bsNil _ _ x e1
    · exact .bs _ _ _ _ g _ cap cur e1 hg ho rfl hc hl hm
  |bp b e i o=>obtain⟨g,hg,rfl⟩:=h.bp_inv;exact .bp _ _ _ _ g _ hg rfl
  |_=>exact .ext _ _ (Qly hf h)
theorem Qjk: ∀{vs:List PV} {us:List Value},vs.all Qlb=true→LRL w im ρ vs us→LRL w im2 ρ vs us
  | [],_,_,.nil=> .nil
  |v::vs,_,hf,.cons _ u _ us h t=>by
    simp only [List.all_cons,Bool.and_eq_true]at hf
    exact .cons _ _ _ _ (Qlz hf.1 h) (Qjk hf.2 t)
theorem Ql0 {v:PV} {u:Value} (hf:Qlc v=true) (h:LR w im ρ v u):LR w im2 ρ v u:=by
  cases v with
  |agg cs=>obtain⟨us,rfl,h1⟩:=h.agg_inv;exact .agg _ _ (Qjk hf h1)
  |_=>exact Qlz hf h
theorem Qjl: ∀{vs:List PV} {us:List Value},vs.all Qlc=true→LRL w im ρ vs us→LRL w im2 ρ vs us
  | [],_,_,.nil=> .nil
  |v::vs,_,hf,.cons _ u _ us h t=>by
    simp only [List.all_cons,Bool.and_eq_true]at hf
    exact .cons _ _ _ _ (Ql0 hf.1 h) (Qjl hf.2 t)
theorem Qwh {v:PV} {u:Value} (hf:flatr v=true) (h:LR w im ρ v u):LR w im2 ρ v u:=by
  cases v with
  |tup cs=>obtain⟨us,rfl,h1⟩:=h.tup_inv;exact .tup _ _ (Qjl hf h1)
  |_=>exact Ql0 hf h

theorem Qeu {v:PV} {u:Value} (hf:Qcn v=true) (h:LR w im ρ v u):Rep w im v u:=by
  unfold Qcn at hf
  split at hf<;>first
    |(cases h with|ext _ _ h=>exact h)
    |(obtain⟨a,b,rfl,h1,h2⟩:=h.fn_inv
      cases h1.nil_inv;cases h2.nil_inv
      exact .fn _ [] [] [] [] .nil .nil)
    |(cases hf;done)
theorem Qgw: ∀{vs:List PV} {us:List Value},vs.all Qcn=true→LRL w im ρ vs us→RepL w im vs us
  | [],_,_,.nil=> .nil
  |v::vs,_,hf,.cons _ u _ us h t=>by
    simp only [List.all_cons,Bool.and_eq_true]at hf
    exact .cons _ _ _ _ (Qeu hf.1 h) (Qgw hf.2 t)
theorem Box.ext_rep {B:Box} {us:List Value} (he:B.ext=true) (h:LRL w im ρ (B.els.flatMap PV.cells) us) (ha:B.arr=true→RepL w im (B.els.flatMap PV.cells) us):RepL w im (B.els.flatMap PV.cells) us:=by
  simp only [Box.ext,Bool.or_eq_true]at he
  rcases he with e|e
  · exact ha e
  · exact Qgw e h
end

/-! ### lending -/
theorem Qem {θF:List (Nat×Nat)}: ∀{θ:List (Nat×Nat)} {bx:Bx} {bxs:List (Nat×Box)} {l:Acc},Qdw θF θ bx=some (bxs,l)→
    (∀x,lkp bxs x=(lkp θ x).bind fun b=>(bx b).bind (Qdv θF))∧ ∀p∈θ,∃B B',bx p.2=some B∧Qdv θF B=some B'∧B.live=true∧LENT≤p.1
  | [],bx,bxs,l,h=>by
    obtain⟨e,_⟩:=M.pure_some h;subst e
    exact⟨fun x=>rfl,by simp⟩
  |(b',b)::θ,bx,bxs,l,h=>by
    obtain⟨Bo,_,_,e1,e2,_⟩:=M.bind_some h
    obtain⟨rfl,_⟩:=M.hard_some e1
    obtain⟨B,_,_,e3,e4,_⟩:=M.bind_some e2
    obtain⟨c1,_⟩:=M.ofOpt_some e3
    obtain⟨_,_,_,e5,e6,_⟩:=M.bind_some e4
    obtain⟨c2,_⟩:=M.ok_some e5
    obtain⟨B',_,_,e7,e8,_⟩:=M.bind_some e6
    obtain⟨c3,_⟩:=M.ofOpt_some e7
    obtain⟨bs,_,_,e9,e10,_⟩:=M.bind_some e8
    obtain⟨e11,_⟩:=M.pure_some e10
    subst e11
    obtain⟨k1,k2⟩:=Qem e9
    simp only [Bool.and_eq_true]at c2
    refine⟨fun x=> ?_,?_⟩
    · simp only [lkp]
      by_cases hx:x=b'
      · simp [hx,c1,c3]
      · simp only [hx,if_false];exact k1 x
    · intro p hp
      rcases List.mem_cons.1 hp with rfl|hp
      · exact⟨B,B',c1,c3,c2.1,Nat.le_of_ble_eq_true c2.2⟩
      · exact k2 p hp

section
variable {w:World} {im:Im} {ρ:Rho} {θ:List (Nat×Nat)}
def rhoC (θ:List (Nat×Nat)) (ρ:Rho):Rho:=fun b'=>(lkp θ b').bind ρ

theorem Qie (hθ: ∀b b',rlk θ b=some b'→lkp θ b'=some b) {v x:PV} {u:Value} (hl:Qcs θ v=some x) (h:LR w im ρ v u):LR w im (rhoC θ ρ) x u∧x.cells.length=1:=by
  have ext:Qcn v=true→some v=some x→LR w im (rhoC θ ρ) x u∧x.cells.length=1:=by
    intro he e
    cases e
    refine⟨.ext _ _ (Qeu he h),?_⟩
    cases v<;>first|rfl|cases he
  cases v with
  |bs b esz off len=>
    simp only [Qcs]at hl
    split at hl
    · rename_i b' hb
      cases hl
      have hr: ∀y,ρ b=some y→rhoC θ ρ b'=some y:=fun y e=>by simp [rhoC,hθ _ _ hb,e]
      rcases h.bs_inv with⟨e,⟨x,rfl⟩,rfl,rfl⟩|⟨g,cap,cur,e,hg,rfl,ho,hc,hlc,hm⟩
      · exact⟨.bsNil _ _ x (hr _ e),rfl⟩
      · exact⟨.bs _ _ _ _ g _ cap cur e (hr _ hg) ho rfl hc hlc hm,rfl⟩
    · cases hl
  |_=>
    simp only [Qcs]at hl
    split at hl
    · rename_i he;exact ext he hl
    · cases hl
theorem Qgx (hθ: ∀b b',rlk θ b=some b'→lkp θ b'=some b): ∀{vs xs:List PV} {us:List Value},Qdu θ vs=some xs→LRL w im ρ vs us→LRL w im (rhoC θ ρ) xs us∧xs.length=vs.length
  | [],xs,us,hl,h=>by cases hl;cases h.nil_inv;exact⟨.nil,rfl⟩
  |v::vs,xs,us,hl,h=>by
    obtain⟨u,us',rfl,h1,h2⟩:=h.cons_inv
    unfold Qdu at hl
    split at hl
    · cases hl
    · rename_i x hx
      split at hl
      · cases hl
      · rename_i ys hy
        cases hl
        obtain⟨k1,k2⟩:=Qgx hθ hy h2
        exact⟨.cons _ _ _ _ (Qie hθ hx h1).1 k1,by simp [k2]⟩
theorem Qsl (hθ: ∀b b',rlk θ b=some b'→lkp θ b'=some b) {v x:PV} {us:List Value} (hl:Qnt θ v=some x) (h:LRL w im ρ v.cells us):LRL w im (rhoC θ ρ) x.cells us∧x.cells.length=v.cells.length:=by
  have one:v.cells=[v]→Qcs θ v=some x→LRL w im (rhoC θ ρ) x.cells us∧x.cells.length=v.cells.length:=by
    intro hc hl
    rw [hc]at h ⊢
    obtain⟨u,rfl,h1⟩:=h.one_inv
    obtain⟨k1,k2⟩:=Qie hθ hl h1
    have hx:x.cells=[x]:=by
      cases v<;>simp only [Qcs]at hl<;>(first|(split at hl<;>cases hl<;>first|rfl|(rename_i he;cases he))|cases hl)
    rw [hx]
    exact⟨.cons _ _ _ _ k1 .nil,rfl⟩
  cases v with
  |agg cs=>
    simp only [Qnt]at hl
    split at hl
    · rename_i xs hxs
      cases hl
      exact Qgx hθ hxs h
    · cases hl
  |_=>exact one rfl hl
theorem Qjm (hθ: ∀b b',rlk θ b=some b'→lkp θ b'=some b): ∀{vs xs:List PV} {us:List Value} {z:Nat},Qhx θ vs=some xs→LRL w im ρ (vs.flatMap PV.cells) us→(∀e∈vs,e.cells.length=z)→
    LRL w im (rhoC θ ρ) (xs.flatMap PV.cells) us∧xs.length=vs.length∧ ∀e∈xs,e.cells.length=z
  | [],xs,us,z,hl,h,_=>by cases hl;cases h.nil_inv;exact⟨.nil,rfl,by simp⟩
  |v::vs,xs,us,z,hl,h,hz=>by
    rw [List.flatMap_cons]at h
    obtain⟨u1,u2,rfl,h1,h2⟩:=h.split
    unfold Qhx at hl
    split at hl
    · cases hl
    · rename_i x hx
      split at hl
      · cases hl
      · rename_i ys hy
        cases hl
        obtain⟨k1,k2,k3⟩:=Qjm hθ hy h2 (fun e he=>hz e (List.mem_cons_of_mem _ he))
        obtain⟨m1,m2⟩:=Qsl hθ hx h1
        refine⟨by rw [List.flatMap_cons];exact m1.append k1,by simp [k2],fun e he=> ?_⟩
        rcases List.mem_cons.1 he with rfl|he
        · rw [m2];exact hz v List.mem_cons_self
        · exact k3 e he
theorem Qps (hθ: ∀b b',rlk θ b=some b'→lkp θ b'=some b) {own own':Nat→Prop} {B B':Box} {x:Option Nat} (hl:Qdv θ B=some B') (h:Qb1 own w im ρ B x) (ho: ∀g,x=some g→own' g):Qb1 own' w im (rhoC θ ρ) B' x:=by
  unfold Qdv at hl
  split at hl
  · rename_i hext
    cases hl
    cases x with
    |none=>exact h
    |some g=>
      obtain⟨h1,h2,h3,h4,⟨hmn,cur,us,rest,h5,h6,h7,h8,h9,h10,h11⟩|hm⟩:=h
      case inr=>exact⟨ho g rfl,h2,h3,h4,.inr hm⟩
      have hr:=Box.ext_rep hext h7 h8
      exact⟨ho g rfl,h2,h3,h4,.inl ⟨hmn,cur,us,rest,h5,h6,hr.toLRL,fun _=>hr,h9,h10,h11⟩⟩
  · split at hl
    · cases hl
    · rename_i ha
      split at hl
      · rename_i els he
        cases hl
        cases x with
        |none=>exact absurd h.2.1 ha
        |some g=>
          obtain⟨h1,h2,h3,h4,⟨hmn,cur,us,rest,h5,h6,h7,h8,h9,h10,h11⟩|hm⟩:=h
          case inr=>exact absurd hm.2.1 ha
          obtain⟨k1,k2,k3⟩:=Qjm hθ he h7 h4
          exact⟨ho g rfl,by simpa [k2]using h2,h3,k3,.inl ⟨hmn,cur,us,rest,h5,h6,k1,fun(e:B.arr=true)=>absurd e ha,h9,h10,h11⟩⟩
      · cases hl
theorem Qgy {B B':Box} (hl:Qdv θ B=some B'):B'.live=B.live:=by
  unfold Qdv at hl
  split at hl
  · cases hl;rfl
  · split at hl
    · cases hl
    · split at hl<;>cases hl;rfl
end
theorem Qgz: ∀{ν:List (Nat×Nat)} {bx:Bx} {u:Unit} {l:Acc},Qhy ν bx=some (u,l)→ ∀p∈ν,bx p.2=none∧p.2<LENT
  | [],_,_,_,_=>by simp
  |(b',b)::ν,bx,u,l,h=>by
    obtain⟨Bo,_,_,e1,e2,_⟩:=M.bind_some h
    obtain⟨rfl,_⟩:=M.hard_some e1
    obtain⟨_,_,_,e5,e6,_⟩:=M.bind_some e2
    obtain⟨c2,_⟩:=M.ok_some e5
    simp only [Bool.and_eq_true,Option.isNone_iff_eq_none]at c2
    intro p hp
    rcases List.mem_cons.1 hp with rfl|hp
    · exact⟨c2.1,Nat.le_of_ble_eq_true c2.2⟩
    · exact Qgz e6 p hp

section
variable {C:Ctx} {a:Act} {w:World} {ρ:Rho} {bx:Bx} {θ:List (Nat×Nat)}

/-- our places,under the call's names -/

theorem Qsm (hθ: ∀b b',rlk θ b=some b'→lkp θ b'=some b) {st:St} {im:Im} (h:Rel' C st a w ρ im) (hs:Qbq bx st) {v y:PV} {u:Value} {es:List Eff} {l:Acc} (hv:LR w im ρ v u) (he:Qpb θ v bx=some ((y,es),l)):
    ∃im',Gone C st (Qaf es st) a w ρ im im' bx∧LR w im' (rhoC θ ρ) y u:=by
  have plain: ∀{v},LR w im ρ v u→escC v bx=some ((y,es),l)→ ∃im',Gone C st (Qaf es st) a w ρ im im' bx∧LR w im' (rhoC θ ρ) y u:=fun hv he=>
    let ⟨im',g,r⟩:=Qka h hs hv he
    ⟨im',g,.ext _ _ r⟩
  unfold Qpb at he
  split at he
  · rename_i b esz off len
    cases hb:rlk θ b with
    |none=>simp only [hb]at he;exact plain hv he
    |some b'=>
      simp only [hb]at he
      obtain⟨e,_⟩:=M.pure_some he;cases e
      have hl:=hθ _ _ hb
      refine⟨im,Gone.refl h hs,?_⟩
      rcases hv.bs_inv with⟨e,⟨x,rfl⟩,rfl,rfl⟩|⟨g,cap,cur,e,hg,rfl,ho,hc,hlc,hm⟩
      · exact .bsNil _ _ x (by simp [rhoC,hl,e])
      · exact .bs _ _ _ _ g _ cap cur e (by simp [rhoC,hl,hg]) ho rfl hc hlc hm
  · rename_i b esz i off
    cases hb:rlk θ b with
    |none=>simp only [hb]at he;exact plain hv he
    |some b'=>
      simp only [hb]at he
      obtain⟨e,_⟩:=M.pure_some he;cases e
      have hl:=hθ _ _ hb
      refine⟨im,Gone.refl h hs,?_⟩
      obtain⟨g,hg,rfl⟩:=hv.bp_inv
      exact .bp _ _ _ _ g _ (by simp [rhoC,hl,hg]) rfl
  · exact plain hv he
theorem Qjn (hθ: ∀b b',rlk θ b=some b'→lkp θ b'=some b): ∀{st:St} {im:Im} (_:Rel' C st a w ρ im) (_:Qbq bx st) {vs ys:List PV} {us:List Value} {es:List Eff} {l:Acc} (_:LRL w im ρ vs us)
    (_:Qjb θ vs bx=some ((ys,es),l)),∃im',Gone C st (Qaf es st) a w ρ im im' bx∧LRL w im' (rhoC θ ρ) ys us:=by
  intro st im h hs vs
  induction vs generalizing st im with
  |nil=>
    intro ys us es l hv he
    obtain⟨e,_⟩:=M.pure_some he;cases e
    cases hv.nil_inv
    exact⟨im,Gone.refl h hs,.nil⟩
  |cons v vs ih=>
    intro ys us es l hv he
    obtain⟨u,us',rfl,h1,h2⟩:=hv.cons_inv
    obtain⟨⟨y,e1⟩,l1,l2,k1,k2,_⟩:=M.bind_some he
    obtain⟨⟨ys',e2⟩,l3,l4,k3,k4,_⟩:=M.bind_some k2
    obtain⟨k5,_⟩:=M.pure_some k4;cases k5
    obtain⟨im1,g1,r1⟩:=Qsm hθ h hs h1 k1
    obtain⟨im2,g2,r2⟩:=ih g1.rel g1.soft (h2.mono (Keeps.refl _ _) g1.im fun _ _ x=>x) k3
    refine⟨im2,by rw [Qak];exact g1.trans g2,.cons _ _ _ _ (r1.mono (Keeps.refl _ _) g2.im fun _ _ x=>x) r2⟩

theorem Qsn (hθ: ∀b b',rlk θ b=some b'→lkp θ b'=some b) {st:St} {im:Im} (h:Rel' C st a w ρ im) (hs:Qbq bx st) {v y:PV} {u:Value} {es:List Eff} {l:Acc} (hv:LR w im ρ v u) (he:Qpc θ v bx=some ((y,es),l)):
    ∃im',Gone C st (Qaf es st) a w ρ im im' bx∧LR w im' (rhoC θ ρ) y u:=by
  have plain: ∀{v},LR w im ρ v u→esc1 v bx=some ((y,es),l)→ ∃im',Gone C st (Qaf es st) a w ρ im im' bx∧LR w im' (rhoC θ ρ) y u:=fun hv he=>
    let ⟨im',g,r⟩:=Qny h hs hv he
    ⟨im',g,.ext _ _ r⟩
  unfold Qpc at he
  split at he
  · rename_i b esz off len
    cases hb:rlk θ b with
    |none=>simp only [hb]at he;exact plain hv he
    |some b'=>
      simp only [hb]at he
      obtain⟨e,_⟩:=M.pure_some he;cases e
      have hl:=hθ _ _ hb
      refine⟨im,Gone.refl h hs,?_⟩
      rcases hv.bs_inv with⟨e,⟨x,rfl⟩,rfl,rfl⟩|⟨g,cap,cur,e,hg,rfl,ho,hc,hlc,hm⟩
      · exact .bsNil _ _ x (by simp [rhoC,hl,e])
      · exact .bs _ _ _ _ g _ cap cur e (by simp [rhoC,hl,hg]) ho rfl hc hlc hm
  · rename_i b esz i off
    cases hb:rlk θ b with
    |none=>simp only [hb]at he;exact plain hv he
    |some b'=>
      simp only [hb]at he
      obtain⟨e,_⟩:=M.pure_some he;cases e
      have hl:=hθ _ _ hb
      refine⟨im,Gone.refl h hs,?_⟩
      obtain⟨g,hg,rfl⟩:=hv.bp_inv
      exact .bp _ _ _ _ g _ (by simp [rhoC,hl,hg]) rfl
  · obtain⟨⟨ys,e1⟩,l1,l2,k1,k2,_⟩:=M.bind_some he
    obtain⟨⟨ys',e2⟩,l3,l4,k3,k4,_⟩:=M.bind_some k2
    obtain⟨k5,_⟩:=M.pure_some k4;cases k5
    obtain⟨p,q,rfl,hp,hq⟩:=hv.fn_inv
    obtain⟨im1,g1,r1⟩:=Qjn hθ h hs hp k1
    obtain⟨im2,g2,r2⟩:=Qjn hθ g1.rel g1.soft (hq.mono (Keeps.refl _ _) g1.im fun _ _ x=>x) k3
    exact⟨im2,by rw [Qak];exact g1.trans g2,.fn _ _ _ _ _ (r1.mono (Keeps.refl _ _) g2.im fun _ _ x=>x) r2⟩
  · obtain⟨e,_⟩:=M.pure_some he;cases e
    refine⟨im,Gone.refl h hs,?_⟩
    cases hv with
    |ext _ _ r=>exact .ext _ _ r
  · exact plain hv he

theorem Qso (hθ: ∀b b',rlk θ b=some b'→lkp θ b'=some b): ∀{st:St} {im:Im} (_:Rel' C st a w ρ im) (_:Qbq bx st) {vs ys:List PV} {us:List Value} {es:List Eff} {l:Acc} (_:LRL w im ρ vs us)
    (_:Qr4 θ vs bx=some ((ys,es),l)),∃im',Gone C st (Qaf es st) a w ρ im im' bx∧LRL w im' (rhoC θ ρ) ys us:=by
  intro st im h hs vs
  induction vs generalizing st im with
  |nil=>
    intro ys us es l hv he
    obtain⟨e,_⟩:=M.pure_some he;cases e
    cases hv.nil_inv
    exact⟨im,Gone.refl h hs,.nil⟩
  |cons v vs ih=>
    intro ys us es l hv he
    obtain⟨u,us',rfl,h1,h2⟩:=hv.cons_inv
    obtain⟨⟨y,e1⟩,l1,l2,k1,k2,_⟩:=M.bind_some he
    obtain⟨⟨ys',e2⟩,l3,l4,k3,k4,_⟩:=M.bind_some k2
    obtain⟨k5,_⟩:=M.pure_some k4;cases k5
    obtain⟨im1,g1,r1⟩:=Qsn hθ h hs h1 k1
    obtain⟨im2,g2,r2⟩:=ih g1.rel g1.soft (h2.mono (Keeps.refl _ _) g1.im fun _ _ x=>x) k3
    refine⟨im2,by rw [Qak];exact g1.trans g2,.cons _ _ _ _ (r1.mono (Keeps.refl _ _) g2.im fun _ _ x=>x) r2⟩

/-! ### what comes back -/
theorem Qpt {w:World} {im im2:Im} {ρ ρ2:Rho} {κ:List (Nat×Nat)} (hi: ∀g j,im g j→im2 g j) (hρ: ∀b x,lkp κ b=some b→ρ b=some x→ρ2 b=some x) {v:PV} {u:Value} (hv:Qpf κ v=true) (h:LR w im ρ v u):LR w im2 ρ2 v u:=by
  have ext:Qcn v=true→LR w im2 ρ2 v u:=fun he=> .ext _ _ ((Qeu he h).mono (fun _ _ _=>rfl) hi)
  cases v with
  |bs b esz off len=>
    have hk:lkp κ b=some b:=by simpa [Qpf]using hv
    rcases h.bs_inv with⟨e,⟨x,rfl⟩,rfl,rfl⟩|⟨g,cap,cur,e,hg,rfl,ho,hc,hlc,hm⟩
    · exact .bsNil _ _ x (hρ _ _ hk e)
    · exact .bs _ _ _ _ g _ cap cur e (hρ _ _ hk hg) ho rfl hc hlc hm
  |bp b esz i off=>
    have hk:lkp κ b=some b:=by simpa [Qpf]using hv
    obtain⟨g,hg,rfl⟩:=h.bp_inv
    exact .bp _ _ _ _ g _ (hρ _ _ hk hg) rfl
  |_=>exact ext hv
theorem Qif {w:World} {im im2:Im} {ρ ρ2:Rho} {κ:List (Nat×Nat)} (hi: ∀g j,im g j→im2 g j) (hρ: ∀b x,lkp κ b=some b→ρ b=some x→ρ2 b=some x): ∀{vs:List PV} {us:List Value},vs.all (Qpf κ)=true→LRL w im ρ vs us→LRL w im2 ρ2 vs us
  | [],_,_,.nil=> .nil
  |v::vs,_,hf,.cons _ u _ us h t=>by
    simp only [List.all_cons,Bool.and_eq_true]at hf
    exact .cons _ _ _ _ (Qpt hi hρ hf.1 h) (Qif hi hρ hf.2 t)
theorem Qen {κ:List (Nat×Nat)} (hκ:Qg6 κ=true): ∀{bxs:List (Nat×Box)} {es:List Eff},Qc0 κ bxs=some es→
    (∀b' B,lkp bxs b'=some B→(B.ext||B.idr κ)=true∧ ∃b,lkp κ b'=some b)∧
    ∀st:St,(Qaf es st).var=st.var∧(Qaf es st).out=st.out∧(Qaf es st).yl=st.yl∧ ∀b,(Qaf es st).box b=match rlk κ b with|some b'=>(match lkp bxs b' with|some B=>some B|none=>st.box b)|none=>st.box b
  | [],es,h=>by
    simp [Qc0]at h;subst h
    refine⟨fun b' B h=>(by cases h),fun st=>⟨rfl,rfl,rfl,fun b=> ?_⟩⟩
    simp only [Qa5,lkp]
    split<;>rfl
  |(b',B)::bs,es,h=>by
    unfold Qc0 at h
    split at h
    · cases h
    · rename_i b hb
      split at h
      · rename_i hc
        split at h
        · rename_i es' hes
          cases h
          obtain⟨k1,k2⟩:=Qen hκ hes
          refine⟨?_,fun st=> ?_⟩
          · intro x B' hx
            unfold lkp at hx
            split at hx
            · rename_i e;cases hx;subst e;exact⟨hc.1,b,hb⟩
            · exact k1 x B' hx
          · obtain⟨m1,m2,m3,m4⟩:=k2 (st.setBox b B)
            rw [Qal]
            refine⟨m1,m2,m3,fun c=> ?_⟩
            show(Qaf es' (st.setBox b B)).box c=_
            rw [m4 c]
            have hn:lkp bs b'=none:=by simpa using hc.2
            cases hr:rlk κ c with
            |none=>
              simp only
              have:c≠b:=by rintro rfl;rw [(Qba hκ).1 hb]at hr;cases hr
              exact Qag _ _ _ _ this
            |some c'=>
              simp only [lkp]
              by_cases e:c'=b'
              · subst e
                have:c=b:=by have:=(Qba hκ).2 hr;rw [hb]at this;exact(Option.some.inj this).symm
                subst this
                simp [hn,St.setBox,Qah]
              · have:c≠b:=by rintro rfl;rw [(Qba hκ).1 hb]at hr;cases hr;exact e rfl
                simp only [e,if_false]
                cases lkp bs c' with
                |some B'=>rfl
                |none=>exact Qag _ _ _ _ this
        · cases h
      · cases h

end

theorem Rel'.turned {C:Ctx} {st:St} {a:Act} {w w':World} {ρ:Rho} {im:Im} {args:List PV} (h:Rel' C st a w ρ im) (ht:Turn C.X C.base ρ im w w') (hj:C.J (Own ρ) im (st.out++[args]) w'):
    Rel' C {st with out:=st.out++[args]} a w' ρ im where
  root:=⟨h.root.below.trans ht.lent,h.root.keep.trans ht.keep h.root.im0,h.root.im0,h.root.im1,h.root.rho0,hj,h.root.yl⟩
  nt:=h.nt
  dfr:=Qea ht.keep h.dfr
  imc:=fun g j hi=>by rw [ht.keep.cell g j hi];exact h.imc g j hi
  var:=fun t v hv=>(h.var t v hv).mono ht.keep (fun _ _ x=>x) (fun _ _ x=>x)
  rho:=h.rho
  box:=fun b x B hx hB=>(h.box b x B hx hB).mono ht.keep (fun _ _ x=>x) (fun _ _ _ _ x=>x) (fun _ _ x=>x) fun _ g hg=>ht.own g ⟨b,by rw [hx,hg]⟩
  inj:=h.inj

theorem Qn8 {C:Ctx} {st:St} {a:Act} {w:World} {ρ:Rho} {im im1:Im} {θ ν:List (Nat×Nat)} (h:Rel' C st a w ρ im) (hi: ∀g j,im g j→im1 g j) (hκ:Qg6 (θ++ν)=true)
    (hlent: ∀p∈θ,∃B,st.box p.2=some B∧B.live=true) (hfree: ∀p∈ν,st.box p.2=none∧p.2<LENT) {r r':PV} {bxs':List (Nat×Box)} {ef:List Eff} (hl:land θ ν bxs' r=some (r',ef))
    {w':World} {ρ':Rho} {im':Im} {v:Value} (hst:Step (rhoC θ ρ) im1 w ρ' im' w') (himc: ∀g j,im' g j→ ∃u,w'.cell? ⟨g,j,none⟩=some u) (hbox:Boxes (Own ρ') w' im' ρ' (lkp bxs'))
    (hstay: ∀b x x',rhoC θ ρ b=some x→ρ' b=some x'→x'=x) (hrv:LR w' im' ρ' r v) (hF:(∀g j,im1 g j→im g j)∨Qf2 r bxs'=true):
    ∃ρ2 im2,Rel' C (Qaf ef st) a w' ρ2 im2∧LR w' im2 ρ2 r' v:=by
  unfold land at hl
  split at hl
  case isFalse=>cases hl
  rename_i hkeys
  split at hl
  case h_2=>cases hl
  rename_i r1 es1 hr2 hlb
  cases hl
  obtain⟨kx,kst⟩:=Qen hκ hlb
  obtain⟨kvar,kout,kyl,kbox⟩:=kst st
  have hin: ∀b' b,lkp (θ++ν) b'=some b→ ∃B,lkp bxs' b'=some B:=fun b' b e=>Option.isSome_iff_exists.1 (List.all_eq_true.1 hkeys _ (Qbn e))
  have hownC: ∀g,Own (rhoC θ ρ) g→ ∃b b' B,(b',b)∈θ∧lkp θ b'=some b∧ρ b=some (some g)∧st.box b=some B∧B.live=true:=by
    rintro g ⟨b',hb'⟩
    unfold rhoC at hb'
    cases e:lkp θ b' with
    |none=>rw [e]at hb';cases hb'
    |some b=>
      rw [e]at hb'
      obtain⟨B,hB,hBl⟩:=hlent _ (Qbn e)
      exact⟨b,b',B,Qbn e,e,hb',hB,hBl⟩
  have hownC': ∀g,Own (rhoC θ ρ) g→Own ρ g:=fun g x=>let ⟨b,_,_,_,_,e,_⟩:=hownC g x;⟨b,e⟩
  obtain⟨ρ2,hρ2⟩: ∃ρ2:Rho,∀b,ρ2 b=match rlk (θ++ν) b with|some b'=>ρ' b'|none=>ρ b:=⟨fun b=>match rlk (θ++ν) b with|some b'=>ρ' b'|none=>ρ b,fun _=>rfl⟩
  obtain⟨im2,him2⟩: ∃im2:Im,∀g j,im2 g j↔(im g j∨(im' g j∧(Own (rhoC θ ρ) g∨w.heap.size≤g))):=⟨fun g j=>im g j∨(im' g j∧(Own (rhoC θ ρ) g∨w.heap.size≤g)),fun _ _=>Iff.rfl⟩
  have him2': ∀g j,im2 g j→im' g j:=fun g j x=>((him2 g j).1 x).elim (fun y=>hst.mono g j (hi g j y)) fun y=>y.1
  have hmono: ∀g j,im g j→im2 g j:=fun g j x=>(him2 g j).2 (.inl x)
  have hkeep:Keeps im w w':=⟨fun g j x=>hst.keep.cell g j (hi g j x),hst.keep.obj,hst.keep.oth⟩
  -- a name of ours that is not the call's
  have hold: ∀b x,ρ b=some x→ρ2 b=some x:=by
    intro b x hx
    rw [hρ2]
    cases e:rlk (θ++ν) b with
    |none=>exact hx
    |some b'=>
      simp only
      have hm:=Qid e
      obtain⟨B',hB'⟩:=hin b' b ((Qba hκ).2 e)
      rcases List.mem_append.1 hm with hm|hm
      · obtain⟨c,hc⟩:=Qmx hm
        have hcb:c=b:=by
          have:=(Qba hκ).2 e
          rw [Qgb,hc]at this
          exact Option.some.inj this
        subst hcb
        have hrc:rhoC θ ρ b'=some x:=by simp [rhoC,hc,hx]
        cases hx':ρ' b' with
        |none=>rw [(hbox.rho b').1 hx']at hB';cases hB'
        |some x'=>rw [hstay b' x x' hrc hx']
      · have:=(h.rho b).2 (hfree _ hm).1
        rw [this]at hx;cases hx
  have hfwd: ∀b c x,lkp (θ++ν) b=some c→ρ' b=some x→ρ2 c=some x:=by
    intro b c x e hx
    rw [hρ2,(Qba hκ).1 e];exact hx
  have himp: ∀g j,im' g j→(Own ρ' g)→im2 g j:=by
    intro g j x y
    exact(him2 g j).2 (.inr ⟨x,hst.own g y⟩)
  -- what is held by the call may be held by us, where nothing is flat
  have hall:(∀g j,im1 g j→im g j)→ ∀g j,im' g j→im2 g j:=by
    intro hF g j x
    rcases hst.imn g j x with y|y|y
    · exact hmono _ _ (hF g j y)
    · exact(him2 g j).2 (.inr ⟨x,.inl y⟩)
    · exact(him2 g j).2 (.inr ⟨x,.inr y⟩)
  have hcont: ∀b' B us,lkp bxs' b'=some B→LRL w' im' ρ' (B.els.flatMap PV.cells) us→(B.arr=true→RepL w' im' (B.els.flatMap PV.cells) us)→LRL w' im2 ρ2 (B.els.flatMap PV.cells) us∧(B.arr=true→RepL w' im2 (B.els.flatMap PV.cells) us):=by
    intro b' B us hB h1 h2
    rcases hF with hF|hF
    · have hc:=(kx b' B hB).1
      rw [Bool.or_eq_true]at hc
      rcases hc with he|hi
      · have hr:=(Box.ext_rep he h1 h2).mono (fun _ _ _=>rfl) (hall hF)
        exact⟨hr.toLRL,fun _=>hr⟩
      · simp only [Box.idr,Bool.and_eq_true,Bool.not_eq_true']at hi
        exact⟨Qif (hall hF) (fun b x e hx=>hfwd b b x e hx) hi.2 h1,fun ha=>by rw [hi.1]at ha;cases ha⟩
    · simp only [Qf2,Bool.and_eq_true]at hF
      have hz:=List.all_eq_true.1 hF.2 _ (Qbn hB)
      rw [Bool.and_eq_true]at hz
      have hr:RepL w' im2 (B.els.flatMap PV.cells) us:=Qjj hz.1 h1
      exact⟨hr.toLRL,fun _=>hr⟩
  have hcontM: ∀b' B g,lkp bxs' b'=some B→Qhv w' im' B g→Qhv w' im2 B g:=by
    intro b' B g hB hm
    rcases hF with hF|hF
    · exact hm.mono (fun _ _ _=>rfl) (hall hF) rfl
    · simp only [Qf2,Bool.and_eq_true]at hF
      have hz:=List.all_eq_true.1 hF.2 _ (Qbn hB)
      rw [Bool.and_eq_true]at hz
      obtain⟨_,_,_,es,_,_,m1,_⟩:=hm
      rw [m1]at hz;cases hz.2
  -- the new boxes
  have hnewbox: ∀b b' x B,rlk (θ++ν) b=some b'→ρ' b'=some x→lkp bxs' b'=some B→Qb1 C.own w' im2 ρ2 B x:=by
    intro b b' x B e hx hB
    have hb:=hbox.box b' x B hx hB
    cases x with
    |none=>exact hb
    |some g=>
      obtain⟨h1,h2,h3,h4,⟨hmn,cur,us,rest,h5,h6,h7,h8,h9,h10,h11⟩|hm⟩:=hb
      case inr=>
        have hown:C.own g:=by
          rcases hst.own g h1 with y|y
          · exact(h.ownB (hownC' g y)).1
          · exact .inl (Nat.le_trans h.root.below.size y)
        exact⟨hown,h2,h3,h4,.inr (hcontM b' B g hB hm)⟩
      have hr:=hcont b' B us hB h7 h8
      have hown:C.own g:=by
        rcases hst.own g h1 with y|y
        · exact(h.ownB (hownC' g y)).1
        · exact .inl (Nat.le_trans h.root.below.size y)
      exact⟨hown,h2,h3,h4,.inl ⟨hmn,cur,us,rest,h5,h6,hr.1,hr.2,h9,fun j hj hh=>himp g j (h10 j hj hh) h1,fun hl j hj hh=>h11 hl j hj (him2' g j hh)⟩⟩
  have hoff: ∀b g B,rlk (θ++ν) b=none→ρ b=some (some g)→st.box b=some B→B.live=true→ ¬Own (rhoC θ ρ) g:=by
    intro b g B e hb hB hBl hc
    obtain⟨b1,b1',B1,hm,_,e1,e2,e3⟩:=hownC g hc
    have:=h.inj b b1 g B B1 hb e1 hB e2 hBl e3
    subst this
    have hm':(b1',b)∈θ++ν:=List.mem_append_left _ hm
    rw [(Qcb hκ hm').2]at e;cases e
  refine⟨ρ2,im2,⟨?_,h.nt,Qea hkeep h.dfr,?_,?_,?_,?_,?_⟩,?_⟩
  · have hstep:Step ρ im w ρ2 im2 w':=by
      refine⟨hst.lent.mono (Nat.le_refl _) fun k _ x=>hownC' k x,hkeep,?_,hmono,?_⟩
      · rintro g ⟨b,hb⟩
        rw [hρ2]at hb
        cases e:rlk (θ++ν) b with
        |none=>rw [e]at hb;exact .inl ⟨b,hb⟩
        |some b'=>rw [e]at hb;exact(hst.own g ⟨b',hb⟩).imp (hownC' g) id
      · intro g j x
        rcases(him2 g j).1 x with y|⟨_,y⟩
        · exact .inl y
        · exact .inr (y.imp (hownC' g) id)
    have hroot:=h.step hstep (by
      intro b x x' hL h0 hx'
      cases hρb:ρ b with
      |none=>
        exfalso
        rw [hρ2]at hx'
        cases e:rlk (θ++ν) b with
        |none=>rw [e,hρb]at hx';cases hx'
        |some b'=>
          rcases List.mem_append.1 (Qid e)with hm|hm
          · obtain⟨B,hB,_⟩:=hlent _ hm
            rw [(h.rho b).1 hρb]at hB;cases hB
          · exact absurd (hfree _ hm).2 (Nat.not_lt.2 hL)
      |some y=>
        have:=h.root.rho0 b x y hL h0 hρb
        subst this
        rw [hold b _ hρb]at hx'
        exact(Option.some.inj hx').symm)
    rw [kout,kyl]
    exact hroot
  · intro g j x
    rcases(him2 g j).1 x with y|⟨y,_⟩
    · rw [hkeep.cell g j y];exact h.imc g j y
    · exact himc g j y
  · intro t x hx
    rw [kvar]at hx
    exact(h.var t x hx).mono hkeep hmono hold
  · intro b
    rw [hρ2,kbox]
    cases e:rlk (θ++ν) b with
    |none=>exact h.rho b
    |some b'=>
      simp only
      obtain⟨B,hB⟩:=hin b' b ((Qba hκ).2 e)
      rw [hB]
      simp only [reduceCtorEq,iff_false]
      intro hn
      rw [(hbox.rho b').1 hn]at hB;cases hB
  · intro b x B hx hB
    rw [hρ2]at hx
    rw [kbox]at hB
    cases e:rlk (θ++ν) b with
    |none=>
      rw [e]at hx hB
      refine(h.box b x B hx hB).mono hkeep hmono ?_ hold ?_
      · intro hl g j hg hh
        rcases(him2 g j).1 hh with y|⟨_,y⟩
        · exact y
        · subst hg
          rcases y with y|y
          · exact absurd y (hoff b g B e hx hB hl)
          · exact absurd (h.block_lt hx).1 (Nat.not_lt.2 y)
      · intro hl g hg
        subst hg
        exact hst.lent.block g (h.block_lt hx).1 (hoff b g B e hx hB hl)
    |some b'=>
      rw [e]at hx hB
      obtain⟨B',hB'⟩:=hin b' b ((Qba hκ).2 e)
      simp only [hB',Option.some.injEq]at hB
      subst hB
      exact hnewbox b b' x _ e hx hB'
  · intro b1 b2 g B1 B2 g1 g2 e1 e2 l1 l2
    have look: ∀b B,(Qaf ef st).box b=some B→ ∀b',rlk (θ++ν) b=some b'→lkp bxs' b'=some B:=by
      intro b B hB b' e
      rw [kbox,e]at hB
      obtain⟨B',hB'⟩:=hin b' b ((Qba hκ).2 e)
      simp only [hB',Option.some.injEq]at hB
      rw [hB',hB]
    have mix: ∀b1 b2 B1 B2,ρ2 b1=some (some g)→ρ2 b2=some (some g)→(Qaf ef st).box b1=some B1→(Qaf ef st).box b2=some B2→B1.live=true→B2.live=true→rlk (θ++ν) b1=none→ ∀b',rlk (θ++ν) b2=some b'→False:=by
      intro b1 b2 B1 B2 g1 g2 e1 e2 l1 l2 k1 b' k2
      rw [hρ2,k1]at g1
      rw [hρ2,k2]at g2
      rw [kbox,k1]at e1
      rcases hst.own g ⟨b',g2⟩with y|y
      · exact hoff b1 g B1 k1 g1 e1 l1 y
      · have:=(h.block_lt g1).1;omega
    cases k1:rlk (θ++ν) b1 with
    |none=>
      cases k2:rlk (θ++ν) b2 with
      |none=>
        rw [hρ2,k1]at g1;rw [hρ2,k2]at g2;rw [kbox,k1]at e1;rw [kbox,k2]at e2
        exact h.inj b1 b2 g B1 B2 g1 g2 e1 e2 l1 l2
      |some b'=>exact(mix b1 b2 B1 B2 g1 g2 e1 e2 l1 l2 k1 b' k2).elim
    |some b1'=>
      cases k2:rlk (θ++ν) b2 with
      |none=>exact(mix b2 b1 B2 B1 g2 g1 e2 e1 l2 l1 k2 b1' k1).elim
      |some b2'=>
        have q1:=look b1 B1 e1 b1' k1
        have q2:=look b2 B2 e2 b2' k2
        rw [hρ2,k1]at g1;rw [hρ2,k2]at g2
        have:=hbox.inj b1' b2' g B1 B2 g1 g2 q1 q2 l1 l2
        subst this
        have z1:=(Qba hκ).2 k1
        have z2:=(Qba hκ).2 k2
        rw [z1]at z2
        exact Option.some.inj z2
  · have hr3:=Qn7 hfwd hr2 hrv
    rcases hF with hF|hF
    · exact hr3.mono (Keeps.refl _ _) (hall hF) fun _ _ x=>x
    · simp only [Qf2,Bool.and_eq_true]at hF
      exact Qn7 hfwd hr2 (Qwh hF.1 hrv)

theorem Qwi {C:Ctx} {st:St} {a:Act} {w:World} {ρ:Rho} {im:Im} {θ0 ν0 θ ν:List (Nat×Nat)} {f0 f:FuncId} {vs args:List PV} {us:List Value} {bxs:List (Nat×Box)} {es:List Eff} {l:Acc} (h:Rel' C st a w ρ im) (hv:LRL w im ρ vs us)
    (hx:Qc9 θ0 ν0 f0 vs st.box=some (.callB f args bxs es θ ν,l)):
    f0=f∧ ∃im1,(∀g j,im1 g j→ ∃u,w.cell? ⟨g,j,none⟩=some u)∧Boxes (Own (rhoC θ ρ)) w im1 (rhoC θ ρ) (lkp bxs)∧LRL w im1 (rhoC θ ρ) args us∧
      ∀r bxs' r' ef,land θ ν bxs' r=some (r',ef)→ ∀w' ρ' im' v,Step (rhoC θ ρ) im1 w ρ' im' w'→(∀g j,im' g j→ ∃u,w'.cell? ⟨g,j,none⟩=some u)→Boxes (Own ρ') w' im' ρ' (lkp bxs')→
        (∀b x x',rhoC θ ρ b=some x→ρ' b=some x'→x'=x)→LR w' im' ρ' r v→ ∃ρ2 im2,Rel' C (Qaf ((if Qf2 r bxs' then []else es)++ef) st) a w' ρ2 im2∧LR w' im2 ρ2 r' v:=by
  obtain⟨⟨ys,es0⟩,_,_,e1,e2,_⟩:=M.bind_some hx
  obtain⟨bxs0,_,_,e3,e4,_⟩:=M.bind_some e2
  obtain⟨_,_,_,e5,e6,_⟩:=M.bind_some e4
  obtain⟨_,_,_,e7,e8,_⟩:=M.bind_some e6
  obtain⟨c1,_⟩:=M.ok_some e7
  obtain⟨e9,_⟩:=M.pure_some e8
  cases e9
  simp only [Bool.and_eq_true,List.all_eq_true,Option.isNone_iff_eq_none,Bool.not_eq_true']at c1
  obtain⟨hκ,hes⟩:=c1
  have hθ: ∀b b',rlk θ0 b=some b'→lkp θ0 b'=some b:=by
    intro b b' e
    have hm:=Qid e
    obtain⟨c,hc⟩:=Qmx hm
    have:=(Qcb hκ (List.mem_append_left ν0 hm)).1
    rw [Qgb,hc]at this
    rw [hc];exact this
  obtain⟨k1,k2⟩:=Qem e3
  have k3:=Qgz e5
  obtain⟨im1,g1,r1⟩:=Qso hθ h (fun _=>rfl) hv e1
  have hbx: ∀b b',rlk (θ0++ν0) b=some b'→(Qaf es0 st).box b=st.box b:=by
    intro b b' e
    refine Qca es0 st fun x hx hid=> ?_
    have:=(hes x hx).1
    rw [hid,e]at this;cases this
  have hbθ: ∀p∈θ0,(Qaf es0 st).box p.2=st.box p.2:=fun p hp=>hbx _ _ (Qcb hκ (List.mem_append_left ν0 hp)).2
  have hbν: ∀p∈ν0,(Qaf es0 st).box p.2=st.box p.2:=fun p hp=>hbx _ _ (Qcb hκ (List.mem_append_right θ0 hp)).2
  refine⟨rfl,im1,g1.rel.imc,⟨?_,?_,?_⟩,r1,?_⟩
  · intro b'
    rw [k1 b']
    unfold rhoC
    cases e:lkp θ0 b' with
    |none=>simp
    |some b=>
      obtain⟨B1,B2,hB1,hl1,_⟩:=k2 _ (Qbn e)
      simp only at hB1
      simp only [Option.bind_some,hB1,hl1]
      constructor
      · intro q;rw [(h.rho b).1 q]at hB1;cases hB1
      · intro q;cases q
  · intro b' x B hx hB
    rw [k1 b']at hB
    unfold rhoC at hx
    cases e:lkp θ0 b' with
    |none=>rw [e]at hx;cases hx
    |some b=>
      rw [e]at hx hB
      simp only [Option.bind_some]at hx hB
      obtain⟨B1,B2,hB1,hl1,_⟩:=k2 _ (Qbn e)
      simp only at hB1
      rw [hB1,Option.bind_some]at hB
      have hb:=g1.rel.box b x B1 hx (by rw [hbθ _ (Qbn e)];exact hB1)
      exact Qps hθ hB hb fun g eg=>⟨b',by simp [rhoC,e,hx,eg]⟩
  · intro b1 b2 g B1 B2 g1' g2' e1' e2' l1 l2
    rw [k1 b1]at e1'
    rw [k1 b2]at e2'
    unfold rhoC at g1' g2'
    cases z1:lkp θ0 b1 with
    |none=>rw [z1]at g1';cases g1'
    |some c1=>
      cases z2:lkp θ0 b2 with
      |none=>rw [z2]at g2';cases g2'
      |some c2=>
        rw [z1]at g1' e1'
        rw [z2]at g2' e2'
        simp only [Option.bind_some]at g1' g2' e1' e2'
        obtain⟨D1,D1',hD1,hl1,_⟩:=k2 _ (Qbn z1)
        obtain⟨D2,D2',hD2,hl2,_⟩:=k2 _ (Qbn z2)
        simp only at hD1 hD2
        rw [hD1,Option.bind_some]at e1'
        rw [hD2,Option.bind_some]at e2'
        have:=h.inj c1 c2 g D1 D2 g1' g2' hD1 hD2 (by rw [←Qgy e1'];exact l1) (by rw [←Qgy e2'];exact l2)
        subst this
        have y1:=(Qcb hκ (List.mem_append_left ν0 (Qbn z1))).2
        have y2:=(Qcb hκ (List.mem_append_left ν0 (Qbn z2))).2
        rw [y1]at y2
        exact Option.some.inj y2
  · intro r bxs' r' ef hl w' ρ' im' v hst himc hbox hstay hrv
    rw [Qak]
    by_cases hfl:Qf2 r bxs'=true
    · rw [if_pos hfl]
      exact Qn8 h g1.im hκ (fun p hp=>let ⟨B,_,hB,_,hl,_⟩:=k2 p hp;⟨B,hB,hl⟩) k3 hl hst himc hbox hstay hrv (.inr hfl)
    · rw [if_neg hfl]
      exact Qn8 g1.rel (fun _ _ x=>x) hκ (fun p hp=>let ⟨B,_,hB,_,hl,_⟩:=k2 p hp;⟨B,by rw [hbθ p hp];exact hB,hl⟩) (fun p hp=>by rw [hbν p hp];exact k3 p hp) hl hst himc hbox hstay hrv (.inl fun _ _ x=>x)

end Go.Vl
