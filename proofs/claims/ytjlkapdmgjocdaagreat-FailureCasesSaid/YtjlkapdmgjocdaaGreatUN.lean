/-
  UM, UN (merged for the claim).
-/
import Derived.Test.YtjlkapdmgjocdaaGreatUL2
import Derived.Orders
import Derived.TacticsIn
set_option linter.unusedSimpArgs false
set_option linter.unusedVariables false
namespace Go.Vl
open Go.RowKit
section
variable {C:Ctx} {st:St} {a:Act} {w:World} {o:Oper} {ops:Array Oper}
theorem Qev (st:St):Qbq st.box st:=fun _=>rfl
theorem Qsk.calls {P:Program} {f:FuncId} {args:List PV} {r:PV} (h:Qsk P f args r): ∃fn,P.funcs[f]? =some fn∧fn.body.isSome=true∧(fn.name== "runtime.NumGoroutine")=false:=by
 have h1:=h.1
 unfold callable at h1
 split at h1
 ·rename_i fn hf
  simp only [Bool.and_eq_true,Bool.not_eq_true']at h1
  exact⟨fn,hf,h1.1,h1.2⟩
 ·cases h1
theorem Qdl.calls {P:Program} {f:FuncId} {args:List PV} {bxs bxs':List (Nat×Box)} {r:PV} (h:Qdl P f args bxs r bxs'): ∃fn,P.funcs[f]? =some fn∧fn.body.isSome=true∧(fn.name== "runtime.NumGoroutine")=false:=by
 have h1:=h.1
 unfold callable at h1
 split at h1
 ·rename_i fn hf
  simp only [Bool.and_eq_true,Bool.not_eq_true']at h1
  exact⟨fn,hf,h1.1,h1.2⟩
 ·cases h1
def FW (rd:Option Nat):Fence:={Fence.wide with round:=rd}
theorem opIn {rd:Option Nat} {P:Program} {K:Act→World→Prop} {Q:Exit→Act→World→Prop} (hd: ∀c,o.op≠ .defer c) (h:o.uponIn (FW rd) 0 P a K Q ((execOp a.eval o).run P w)):o.wpIn (FW rd) 0 P a w K Q:=by
 refine⟨fun _ _=>trivial,?_⟩
 have:o.semAt (FW rd).round a.eval=execOp a.eval o:=by
  cases rd with
  |none=>rfl
  |some l=>exact Oper.semAt_some l a.eval o hd
 rw [this];exact h
theorem Qgc {rd:Option Nat} {P:Program} {f:FuncId} {args:Array Value} {R:Ending→World→Prop} (h:Calls P f args w R):CallsIn (FW rd) 0 P f args w R:=callsIn_wide.2 h
theorem Qcp {P:Program} {tb:Tab} {id:Nat} {op:Op} {vs:List PV} {bx:Bx} {x:Out×Acc} (h:Qao P tb id op vs bx=some x): ∀c,op≠ .defer c:=by
 rintro c rfl
 simp [Qao,Qfk,M.fail]at h
theorem Qwj {tb:Tab} {id:Nat} {r:Rec} (h:Rel C st a w) (hr:OpRun C.P tb ops st id o r) (hidL:id<LENT) (hd: ∀t,o.dst=some t→t<C.nt) {rd:Option Nat} {K:Act→World→Prop} {Q:Exit→Act→World→Prop}
  (hK: ∀a' w',Rel C (r.on o.dst st) a' w'→K a' w'):
  if Region.wanted o (yielded ops a.tmps)then o.wpIn (FW rd) 0 C.P a w K Q else(∀f,o.about C.P w a.eval=some f→(FW rd).fn f)∧K (a.put o.dst undef) w:=by
 obtain⟨ρ,im,h⟩:=h
 cases hr with
 |skip hw=>
  rw [Qc2 h hw]
  exact⟨fun _ _=>trivial,hK _ _ (Rel.put h hd (.ext _ _ (.tup [] [] .nil)))⟩
 |done hw vs hv v es l he=>
  rw [Qc2 h hw]
  obtain⟨u,w',ρ',im',hrun,h1,h2⟩:=Q0q hidL h (Qh0 h hv) he
  have hk:=hK _ _ (Rel.put h1 hd h2)
  simp only [if_true]
  refine opIn (Qcp he) ?_
  rcases hrun with hrun|⟨hrun,hu⟩
  ·rw [hrun];exact hk
  ·rw [hrun];rw [hu]at hk;exact hk
 |call hw vs hv f args es l r he hs=>
  rw [Qc2 h hw]
  cases Qga he (by intro v es e;cases e)with
  |callB fo asx ts f first cap vargs θ ν x l hop hvs hx=>
   obtain⟨_,_,_,_,e2,_⟩:=M.bind_some hx
   obtain⟨_,_,_,_,e4,_⟩:=M.bind_some e2
   obtain⟨_,_,_,_,e6,_⟩:=M.bind_some e4
   obtain⟨_,_,_,_,e8,_⟩:=M.bind_some e6
   obtain⟨e9,_⟩:=M.pure_some e8
   cases e9
  |call fo asx ts f first cap vargs x y z l1 l2 l3 hop hvs e1 e2 e3=>
  subst hvs
  have hv':=Qh0 h hv
  rw [hop]at hv'
  simp only [Op.operands,Call.operands]at hv'
  obtain⟨uf,uargs,hu,h1,h2⟩:=hv'.cons_inv
  simp at hu
  obtain⟨hu1,hu2⟩:=hu
  obtain⟨p,q,hpq,hp,hq⟩:=h1.fn_inv
  obtain⟨x1,xe⟩:=x
  obtain⟨y1,ye⟩:=y
  obtain⟨z1,ze⟩:=z
  obtain⟨im1,g1,r1⟩:=Qdz h (Qev st) hp e1
  obtain⟨im2,g2,r2⟩:=Qfn g1.rel g1.soft (h2.mono (Keeps.refl _ _) g1.im fun _ _ x=>x) e2
  obtain⟨im3,g3,r3⟩:=Qdz g2.rel g2.soft (hq.mono (Keeps.refl _ _) (fun g j x=>g2.im g j (g1.im g j x)) fun _ _ x=>x) e3
  have hargs:RepL w im3 (x1++y1++z1) (p++uargs++q):=
   ((r1.mono (fun _ _ _=>rfl) fun g j x=>g3.im g j (g2.im g j x)).append (r2.mono (fun _ _ _=>rfl) g3.im)).append r3
  rcases hs with hs|⟨_,hfl,hs⟩
  case inr=>
   obtain⟨v,hv1,hv2⟩:=hs w im3 _ hargs
   simp only [if_true]
   refine opIn (Qcp he) ?_
   have hrun:(execOp a.eval o).run C.P w= .ok (.value v) w:=by
    rw [←hv1]
    have ea:p.toArray++(Array.map a.eval asx++q.toArray)=(p++(uargs++q)).toArray:=by rw [←hu2];simp
    simp [execOp,hop,resolve,hu1,hpq,Deferred.ofValue,invoke]
    rw [ea]
   rw [hrun]
   simp only [Rec.on,hfl,if_true,Qa5]at hK
   exact hK _ _ (Rel.put h hd (.ext _ _ (Qn4 hfl hv2)))
  obtain⟨fn,hf1,hf2,hf3⟩:=hs.calls
  have hcall:=hs.2 w im3 _ C.F h.laid.2.1 h.laid.1 hargs g3.rel.imc
  have hst3:Qaf ze (Qaf ye (Qaf xe st))=Qaf (xe++ye++ze) st:=by rw [Qak,Qak]
  have g3':=g3.rel
  rw [hst3]at g3'
  simp only [if_true]
  refine opIn (Qcp he) ?_
  have hrun:(execOp a.eval o).run C.P w= .ok (.enter f (p++uargs++q).toArray) w:=by
   have hn: ¬fn.name= "runtime.NumGoroutine" :=by simpa using hf3
   have hbn: ¬fn.body=none:=by intro e;rw [e]at hf2;cases hf2
   simp [execOp,hop,resolve,hu1,hpq,Deferred.ofValue,invoke,callFunc,hf1,hn,hbn]
   exact hu2
  rw [hrun,Oper.uponIn_enter]
  refine⟨fun e=>(by cases e),(Qgc hcall).mono ?_⟩
  rintro e w' ⟨v,rfl,hbl,hrv⟩
  refine hK _ _ ?_
  by_cases hfl:Qfr r=true
  ·simp only [Rec.on,hfl,if_true,Qa5]
   exact Rel.put (h.below_call hbl) hd (.ext _ _ (Qn4 hfl hrv))
  ·simp only [Rec.on,hfl,if_false]
   refine Rel.put (g3'.grow (im':=Qwg im3 w w') (.of_below hbl) (Keeps.of_below hbl g3'.imc) (g3'.below_call hbl) (fun _ _ x=> .inl x) ?_) hd (.ext _ _ hrv)
   rintro g j (x|⟨x,y⟩)
   ·exact .inl x
   ·exact .inr ⟨x,y,fun b hb=>by have:=(h.block_lt hb).1;omega⟩
 |callB hw vs hv f args bxs es θ ν l r bxs' r' ef he hs hl=>
  rw [Qc2 h hw]
  cases Qga he (by intro v es e;cases e)with
  |callB fo asx ts f first cap vargs θ ν x l hop hvs hx=>
  subst hvs
  have hv':=Qh0 h hv
  rw [hop]at hv'
  simp only [Op.operands,Call.operands]at hv'
  obtain⟨uf,uargs,hu,h1,h2⟩:=hv'.cons_inv
  simp at hu
  obtain⟨hu1,hu2⟩:=hu
  obtain⟨p,q,hpq,hp,hq⟩:=h1.fn_inv
  obtain⟨fn,hf1,hf2,hf3⟩:=hs.calls
  simp only [if_true]
  refine opIn (Qcp he) ?_
  obtain⟨rfl,im1,k1,k2,k3,k4⟩:=Qwi h ((hp.append h2).append hq) hx
  have hrun:(execOp a.eval o).run C.P w= .ok (.enter f (p++uargs++q).toArray) w:=by
   have hn: ¬fn.name= "runtime.NumGoroutine" :=by simpa using hf3
   have hbn: ¬fn.body=none:=by intro e;rw [e]at hf2;cases hf2
   simp [execOp,hop,resolve,hu1,hpq,Deferred.ofValue,invoke,callFunc,hf1,hn,hbn]
   exact hu2
  rw [hrun,Oper.uponIn_enter]
  refine⟨fun e=>(by cases e),(Qgc (hs.2 w im1 _ _ C.F h.laid.2.1 h.laid.1 (fun g hg=>by
   obtain⟨b,hb⟩:=hg
   have hb': ∃c,ρ c=some (some g):=(Option.bind_eq_some_iff.1 hb).elim fun c x=>⟨c,x.2⟩
   exact h.laid.2.2 g hb') k1 k2 k3)).mono ?_⟩
  rintro e w' ⟨v,ρ',im',rfl,hst,himc,hbox,hstay,hrv⟩
  obtain⟨ρ2,im2,m1,m2⟩:=k4 r bxs' r' ef hl w' ρ' im' v hst himc hbox hstay hrv
  exact hK _ _ (Rel.put m1 hd m2)
 |yield hw vs hv n stop args es l he hy=>
  rw [Qc2 h hw]
  cases Qga he (by intro v es e;cases e)with
  |callB fo asx ts f first cap vargs θ ν x l hop hvs hx=>
   obtain⟨_,_,_,_,e2,_⟩:=M.bind_some hx
   obtain⟨_,_,_,_,e4,_⟩:=M.bind_some e2
   obtain⟨_,_,_,_,e6,_⟩:=M.bind_some e4
   obtain⟨_,_,_,_,e8,_⟩:=M.bind_some e6
   obtain⟨e9,_⟩:=M.pure_some e8
   cases e9
  |yield fo asx ts n stop vargs y l1 hop hvs e1=>
  subst hvs
  have hv':=Qh0 h hv
  rw [hop]at hv'
  simp only [Op.operands,Call.operands]at hv'
  obtain⟨uf,uargs,hu,h1,h2⟩:=hv'.cons_inv
  simp at hu
  obtain⟨hu1,hu2⟩:=hu
  have hyv:=h1.yld_inv
  obtain⟨y1,ye⟩:=y
  obtain⟨im1,g1,r1⟩:=Qfn h (Qev st) h2 e1
  have hr1:=g1.rel.root
  rw [g1.yl,g1.out]at hr1
  simp only [if_true]
  refine opIn (Qcp he) ?_
  unfold yOk at hy
  split at hy
  case h_2=>exact hy.elim
  rename_i n' stop' outs hyl
  obtain⟨rfl,rfl,hs,ho⟩:=hy
  obtain⟨fn,tmps,assign,body,k1,k2⟩:=C.hY (hr1.yl.symm.trans hyl) st.out y1 uargs hs ho hr1.ghost (fun g hg=>(g1.rel.ownB hg).2) g1.rel.imc r1 hr1.below.size
  have hrun:(execOp a.eval o).run C.P w= .ok (.round n fn tmps assign body) w:=by
   simp [execOp,hop,resolve,hu1,hyv,Deferred.ofValue,invoke]
   rw [←hu2]at k1
   have hA:(asx.toList.map a.eval).toArray=asx.map a.eval:=Array.ext' (by simp)
   rw [hA]at k1
   exact k1
  rw [hrun,Oper.uponIn_round]
  refine⟨fun e=>(by cases e),RoundIn.mono (F:=Fence.wide) k2 ?_⟩
  rintro e w' ⟨rfl,ht,hj⟩
  refine hK _ _ ?_
  have hT:=g1.rel.turned (args:=y1) ht (by rw [g1.out];exact hj)
  have:=Rel.put hT hd (v:= .bool (decide (st.out.length<stop))) (u:= .bool (decide (st.out.length<stop))) (.ext _ _ (.bool _))
  simpa [Rec.on,Qak,Qal,Qa5,Eff.on]using this
end
def Q2r (o:Op):List Tmp:=o.operands.toList.filterMap fun| .tmp t=>some t|_=>none
def Qig (ops:Array Oper) (o:Oper):List Tmp:=Q2r o.op++(match Qfs ops o with|some (t,_)=>[t]|none=>[])
theorem Ql1 {st st':St}: ∀{xs:List Operand},(∀t∈(xs.filterMap fun| .tmp t=>some t|_=>none),st'.var t=st.var t)→st'.evs xs=st.evs xs
 | [],_=>rfl
 |x::xs,h=>by
  have hx:st'.ev x=st.ev x:=by
   cases x with
   |tmp t=>exact h t (by simp)
   |_=>rfl
  have hxs:st'.evs xs=st.evs xs:=Ql1 fun t ht=>h t (by cases x<;>simp_all)
  simp only [St.evs,hx,hxs]
theorem Qct {ops:Array Oper} {o:Oper} {st st':St} (h: ∀t∈Qig ops o,st'.var t=st.var t):Qbm ops o st'=Qbm ops o st:=by
 unfold Qbm
 cases hg:o.guard with
 |none=>rfl
 |some p=>
  simp only
  cases ht:Qfs ops o with
  |none=>rfl
  |some q=>
   obtain⟨t,want⟩:=q
   simp only
   rw [h t (by simp [Qig,ht])]
theorem OpRun.frame {P:Program} {tb:Tab} {ops:Array Oper} {st st':St} {id:Nat} {o:Oper} {r:Rec} (h:OpRun P tb ops st id o r) (hny: ∀h,(YID,h) ∉ r.acc) (hv: ∀t∈Qig ops o,st'.var t=st.var t) (hb:Qcg r.acc st.box st'.box):
  OpRun P tb ops st' id o r:=by
 have he:st'.evs o.op.operands.toList=st.evs o.op.operands.toList:=Ql1 fun t ht=>hv t (List.mem_append_left _ ht)
 cases h with
 |skip hw=>exact .skip (by rw [Qct hv];exact hw)
 |done hw vs hvs v es l he'=>exact .done (by rw [Qct hv];exact hw) vs (by rw [he];exact hvs) v es l (Qd3 _ _ _ _ _ _ _ _ _ he' hb.append.1)
 |call hw vs hvs f args es l r he' hs=>exact .call (by rw [Qct hv];exact hw) vs (by rw [he];exact hvs) f args es l r (Qd3 _ _ _ _ _ _ _ _ _ he' hb.append.1) hs
 |callB hw vs hvs f args bxs es θ ν l r bxs' r' ef he' hs hl=>exact .callB (by rw [Qct hv];exact hw) vs (by rw [he];exact hvs) f args bxs es θ ν l r bxs' r' ef (Qd3 _ _ _ _ _ _ _ _ _ he' hb.append.1.append.1) hs hl
 |yield hw vs hvs n stop args es l he' hy=>exact absurd (List.mem_append_right _ (List.mem_singleton.2 rfl)) (hny true)
theorem OpRun.effs {P:Program} {tb:Tab} {ops:Array Oper} {st:St} {id:Nat} {o:Oper} {r:Rec} (h:OpRun P tb ops st id o r): ∀e∈r.effs,(e.id,e.hard)∈r.acc:=by
 cases h with
 |skip hw=>simp
 |done hw vs hvs v es l he'=>intro e he;exact List.mem_append_right _ (List.mem_map.2 ⟨e,he,rfl⟩)
 |call hw vs hvs f args es l r he' hs=>
  intro e he
  simp only at he
  split at he
  ·simp at he
  ·exact List.mem_append_right _ (List.mem_map.2 ⟨e,he,rfl⟩)
 |callB hw vs hvs f args bxs es θ ν l r bxs' r' ef he' hs hl=>
  intro e he
  rcases List.mem_append.1 he with he|he
  ·split at he
   ·simp at he
   ·exact List.mem_append_left _ (List.mem_append_right _ (List.mem_map.2 ⟨e,he,rfl⟩))
  ·exact List.mem_append_right _ (List.mem_map.2 ⟨e,he,rfl⟩)
 |yield hw vs hvs n stop args es l he' hy=>
  intro e he
  rcases List.mem_append.1 he with he|he
  ·exact List.mem_append_left _ (List.mem_append_right _ (List.mem_map.2 ⟨e,he,rfl⟩))
  ·rw [List.mem_singleton.1 he];exact List.mem_append_right _ (List.mem_singleton.2 rfl)
structure Apart (ops:Array Oper) (o1 o2:Oper) (l1 l2:Acc):Prop where
 d1: ∀t,o1.dst=some t→t ∉ Qig ops o2
 d2: ∀t,o2.dst=some t→t ∉ Qig ops o1
 dd: ∀t,o1.dst=some t→o2.dst≠some t
 acc: ∀b h1 h2,(b,h1)∈l1→(b,h2)∈l2→h1=false∧h2=false
 y1: ∀h,(YID,h) ∉ l1
 y2: ∀h,(YID,h) ∉ l2
def Qsp (ops:Array Oper) (o1 o2:Oper) (l1 l2:Acc):Bool:=
 (match o1.dst with|some t=> !(Qig ops o2).contains t&& !(o2.dst==some t)|none=>true)&&
 (match o2.dst with|some t=> !(Qig ops o1).contains t|none=>true)&&
 (l1.all fun p=>l2.all fun q=>p.1 != q.1||(!p.2&& !q.2))&&(l1.all fun p=>p.1 != YID)&&l2.all fun p=>p.1 != YID
theorem Qmy {ops:Array Oper} {o1 o2:Oper} {l1 l2:Acc} (h:Qsp ops o1 o2 l1 l2=true):Apart ops o1 o2 l1 l2:=by
 simp only [Qsp,Bool.and_eq_true]at h
 obtain⟨⟨⟨⟨h1,h2⟩,h3⟩,h4⟩,h5⟩:=h
 refine⟨?_,?_,?_,?_,fun x hx=>by have:=List.all_eq_true.1 h4 _ hx;simp at this,fun x hx=>by have:=List.all_eq_true.1 h5 _ hx;simp at this⟩
 ·intro t ht;rw [ht]at h1;simp at h1;exact h1.1
 ·intro t ht;rw [ht]at h2;simp at h2;exact h2
 ·intro t ht;rw [ht]at h1;simp at h1;exact h1.2
 ·intro b x y hx hy
  have:=List.all_eq_true.1 (List.all_eq_true.1 h3 _ hx) _ hy
  simpa using this
theorem Qwk (e:Eff) (st:St) {b:Nat} (h:e.id=b→e.hard=false):((e.on st).box b).map Box.soft=(st.box b).map Box.soft:=by
 by_cases hb:e.id=b
 ·have:=h hb
  cases e with
  |fro b' n=>
   simp only [Eff.id]at hb
   subst hb
   simp only [Eff.on]
   split
   ·rename_i B hB;simp [St.setBox,Qah,hB,Box.soft]
   ·rfl
  |_=>simp [Eff.hard]at this
 ·rw [Qfo e st hb]
theorem Ql2: ∀(es:List Eff) (st:St) {b:Nat},(∀e∈es,e.id=b→e.hard=false)→((Qaf es st).box b).map Box.soft=(st.box b).map Box.soft
 | [],_,_,_=>rfl
 |e::es,st,b,h=>by
  rw [Qal,Ql2 es _ fun x hx=>h x (by simp [hx])]
  exact Qwk e st (h e (by simp))
theorem Q0r (e:Eff) (st:St):(e.on st).var=st.var:=by
 cases e<;>simp only [Eff.on]<;>first|rfl|(split<;>rfl)
theorem Qkn: ∀(es:List Eff) (st:St),(Qaf es st).var=st.var
 | [],_=>rfl
 |e::es,st=>by rw [Qal,Qkn es,Q0r]
theorem Q0s (st:St) (dst:Option Tmp) (v:PV):(st.put dst v).box=st.box:=by cases dst<;>rfl
theorem Qfu (st:St) {dst:Option Tmp} (v:PV) {t:Nat} (h:dst≠some t):(st.put dst v).var t=st.var t:=by
 cases dst with
 |none=>rfl
 |some d=>exact Qag _ _ _ _ fun e=>h (by rw [e])
theorem Qih {P:Program} {tb:Tab} {ops:Array Oper} {st:St} {id1:Nat} {o1 o2:Oper} {r1:Rec} {l2:Acc} (h:OpRun P tb ops st id1 o1 r1) (ha:Apart ops o1 o2 r1.acc l2):
  Qcg l2 st.box (r1.on o1.dst st).box:=by
 rintro⟨b,h2⟩ hp
 simp only [Rec.on,Q0s]
 cases h2 with
 |true=>
  simp only [if_true]
  exact(Qca _ _ fun e he hb=>by have:=(ha.acc b e.hard true (by rw [←hb];exact h.effs e he) hp).2;cases this).symm
 |false=>
  simp only [Bool.false_eq_true,if_false]
  exact(Ql2 _ _ fun e he hb=>(ha.acc b e.hard false (by rw [←hb];exact h.effs e he) hp).1).symm
theorem Qpu {l:Acc} {bx bx':Bx} (h:Qcg l bx bx'):Qcg l bx' bx:=by
 intro p hp
 have:=h p hp
 split<;>simp_all
theorem St.ext' {s t:St} (h1:s.var=t.var) (h2:s.box=t.box) (h3:s.out=t.out) (h4:s.yl=t.yl):s=t:=by cases s;cases t;simp_all
theorem Qn9 {α:Type} (f:Nat→α) {i j:Nat} (x y:α) (h:i≠j):upd (upd f i x) j y=upd (upd f j y) i x:=by
 funext k
 simp only [upd]
 by_cases h1:k=j<;>by_cases h2:k=i<;>simp_all
theorem Qwl (e1 e2:Eff) (st:St) (y1:e1.id≠YID) (y2:e2.id≠YID) (h:e1.id≠e2.id∨(e1.hard=false∧e2.hard=false)):e1.on (e2.on st)=e2.on (e1.on st):=by
 -- what an effect makes of its box
 have form: ∀(e:Eff) (s:St),e.id≠YID→(e.on s)=s∨ ∃B,(e.on s)=s.setBox e.id B∧ ∀s':St,s'.box e.id=s.box e.id→e.on s'=s'.setBox e.id B:=by
  intro e s hy
  cases e with
  |yld x=>exact absurd rfl hy
  |new b B=>exact .inr ⟨B,rfl,fun _ _=>rfl⟩
  |wr b i v=>
   simp only [Eff.on,Eff.id]
   cases hb:s.box b with
   |none=>exact .inl rfl
   |some B=>exact .inr ⟨_,rfl,fun s' e=>by simp [e]⟩
  |fro b n=>
   simp only [Eff.on,Eff.id]
   cases hb:s.box b with
   |none=>exact .inl rfl
   |some B=>exact .inr ⟨_,rfl,fun s' e=>by simp [e]⟩
  |kill b=>
   simp only [Eff.on,Eff.id]
   cases hb:s.box b with
   |none=>exact .inl rfl
   |some B=>exact .inr ⟨_,rfl,fun s' e=>by simp [e]⟩
 have nul: ∀(e:Eff) (s s':St),e.id≠YID→e.on s=s→s'.box e.id=s.box e.id→e.on s'=s':=by
  intro e s s' hy he hb
  cases e with
  |yld x=>exact absurd rfl hy
  |new b B=>
   simp only [Eff.on,Eff.id]at he hb ⊢
   have:s.box b=some B:=by rw [←he];simp [St.setBox,Qah]
   refine St.ext' rfl ?_ rfl rfl
   funext k
   simp only [St.setBox,upd]
   split
   ·rename_i hk;subst hk;rw [hb,this]
   ·rfl
  |wr b i v=>
   simp only [Eff.on,Eff.id]at he hb ⊢
   rw [hb]
   cases hs:s.box b with
   |none=>rfl
   |some B=>
    rw [hs]at he
    have:s.box b=some {B with els:=B.els.set i v}:=by conv=>lhs;rw [←he];simp only [St.setBox,Qah]
    rw [hs]at this
    simp only [Option.some.injEq]at this
    show St.setBox s' b _=s'
    rw [←this]
    refine St.ext' rfl ?_ rfl rfl
    funext k
    simp only [St.setBox,upd]
    split
    ·rename_i hk;subst hk;rw [hb,hs]
    ·rfl
  |fro b n=>
   simp only [Eff.on,Eff.id]at he hb ⊢
   rw [hb]
   cases hs:s.box b with
   |none=>rfl
   |some B=>
    rw [hs]at he
    have:s.box b=some {B with fro:=max B.fro n,live:=B.live&&true}:=by conv=>lhs;rw [←he];simp only [St.setBox,Qah]
    rw [hs]at this
    simp only [Option.some.injEq]at this
    show St.setBox s' b _=s'
    rw [←this]
    refine St.ext' rfl ?_ rfl rfl
    funext k
    simp only [St.setBox,upd]
    split
    ·rename_i hk;subst hk;rw [hb,hs]
    ·rfl
  |kill b=>
   simp only [Eff.on,Eff.id]at he hb ⊢
   rw [hb]
   cases hs:s.box b with
   |none=>rfl
   |some B=>
    rw [hs]at he
    have:s.box b=some {B with els:=[],fro:=0,live:=false}:=by conv=>lhs;rw [←he];simp only [St.setBox,Qah]
    rw [hs]at this
    simp only [Option.some.injEq]at this
    show St.setBox s' b _=s'
    rw [←this]
    refine St.ext' rfl ?_ rfl rfl
    funext k
    simp only [St.setBox,upd]
    split
    ·rename_i hk;subst hk;rw [hb,hs]
    ·rfl
 by_cases hid:e1.id=e2.id
 ·-- both hold the same box
  obtain⟨h1,h2⟩:=h.resolve_left (fun x=>x hid)
  cases e1 with
  |fro b n=>
   cases e2 with
   |fro b' n'=>
    simp only [Eff.id]at hid
    subst hid
    simp only [Eff.on]
    cases hs:st.box b with
    |none=>simp [hs]
    |some B=>
     simp only [St.setBox,Qah]
     refine St.ext' rfl ?_ rfl rfl
     funext k
     simp only [upd]
     split
     ·simp [Nat.max_comm,Nat.max_left_comm]
     ·rfl
   |_=>simp [Eff.hard]at h2
  |_=>simp [Eff.hard]at h1
 ·have o12:(e1.on st).box e2.id=st.box e2.id:=Qfo e1 st hid
  have o21:(e2.on st).box e1.id=st.box e1.id:=Qfo e2 st fun x=>hid x.symm
  rcases form e1 st y1 with f1|⟨B1,f1,g1⟩
  ·rw [f1];exact nul e1 st _ y1 f1 o21
  ·rcases form e2 st y2 with f2|⟨B2,f2,g2⟩
   ·rw [f2];exact(nul e2 st _ y2 f2 o12).symm
   ·rw [g1 _ o21,g2 _ o12,f1,f2]
    exact St.ext' rfl (Qn9 _ _ _ fun x=>hid x.symm) rfl rfl
theorem Qjo (e:Eff) (y:e.id≠YID): ∀(es:List Eff) (st:St),(∀x∈es,x.id≠YID)→(∀x∈es,e.id≠x.id∨(e.hard=false∧x.hard=false))→e.on (Qaf es st)=Qaf es (e.on st)
 | [],_,_,_=>rfl
 |x::es,st,ys,h=>by
  rw [Qal,Qal,Qjo e y es _ (fun y hy=>ys y (by simp [hy])) fun y hy=>h y (by simp [hy]),Qwl e x st y (ys x (by simp)) (h x (by simp))]
theorem Ql3: ∀(es fs:List Eff) (st:St),(∀x∈es,x.id≠YID)→(∀x∈fs,x.id≠YID)→(∀e∈es,∀x∈fs,e.id≠x.id∨(e.hard=false∧x.hard=false))→Qaf es (Qaf fs st)=Qaf fs (Qaf es st)
 | [],_,_,_,_,_=>rfl
 |e::es,fs,st,ys,zs,h=>by
  rw [Qal,Qjo e (ys e (by simp)) fs st zs (h e (by simp)),Ql3 es fs _ (fun x hx=>ys x (by simp [hx])) zs fun x hx=>h x (by simp [hx]),Qal]
theorem Q0t (e:Eff) (st:St) (dst:Option Tmp) (v:PV):e.on (st.put dst v)=(e.on st).put dst v:=by
 cases dst with
 |none=>rfl
 |some t=>
  have hb: ∀b,(st.setVar t v).box b=st.box b:=fun _=>rfl
  cases e with
  |new b B=>rfl
  |yld x=>rfl
  |_ b=>simp only [Eff.on,St.put,hb];cases st.box b<;>rfl
theorem Qwm (es:List Eff) (st:St) (dst:Option Tmp) (v:PV):Qaf es (st.put dst v)=(Qaf es st).put dst v:=by
 induction es generalizing st with
 |nil=>rfl
 |cons e es ih=>rw [Qal,Qal,←ih,Q0t]
theorem Qwn (st:St) {d1 d2:Option Tmp} (v1 v2:PV) (h: ∀t,d1=some t→d2≠some t):(st.put d1 v1).put d2 v2=(st.put d2 v2).put d1 v1:=by
 cases d1 with
 |none=>rfl
 |some i=>
  cases d2 with
  |none=>rfl
  |some j=>exact St.ext' (Qn9 _ _ _ fun e=>h i rfl (by rw [e])) rfl rfl rfl
theorem swap {P:Program} {tb:Tab} {ops:Array Oper} {st:St} {id1 id2:Nat} {o1 o2:Oper} {r1 r2:Rec} (h1:OpRun P tb ops st id1 o1 r1) (h2:OpRun P tb ops (r1.on o1.dst st) id2 o2 r2)
  (ha:Apart ops o1 o2 r1.acc r2.acc):OpRun P tb ops st id2 o2 r2∧OpRun P tb ops (r2.on o2.dst st) id1 o1 r1∧r2.on o2.dst (r1.on o1.dst st)=r1.on o1.dst (r2.on o2.dst st):=by
 have k2:OpRun P tb ops st id2 o2 r2:=h2.frame ha.y2 (fun t ht=>by
  simp only [Rec.on]
  rw [Qfu _ _ fun e=>ha.d1 t e ht,Qkn]) (Qpu (Qih h1 ha))
 have ha':Apart ops o2 o1 r2.acc r1.acc:=⟨ha.d2,ha.d1,fun t e1 e2=>ha.dd t e2 e1,fun b x y hx hy=>(ha.acc b y x hy hx).symm,ha.y2,ha.y1⟩
 have k1:OpRun P tb ops (r2.on o2.dst st) id1 o1 r1:=h1.frame ha.y1 (fun t ht=>by
  simp only [Rec.on]
  rw [Qfu _ _ fun e=>ha.d2 t e ht,Qkn]) (Qih k2 ha')
 refine⟨k2,k1,?_⟩
 simp only [Rec.on,Qwm]
 rw [Qwn _ _ _ ha.dd,Ql3 _ _ _ (fun e he x=>ha.y2 _ (by rw [←x];exact h2.effs e he)) (fun e he x=>ha.y1 _ (by rw [←x];exact h1.effs e he))]
 intro e he x hx
 by_cases hb:e.id=x.id
 ·right
  have:=ha.acc x.id x.hard e.hard (h1.effs x hx) (by rw [←hb];exact h2.effs e he)
  exact⟨this.2,this.1⟩
 ·exact .inl hb
end Go.Vl

namespace Go.Vl
open Go.RowKit
inductive RunL (P:Program) (tb:Tab) (ops:Array Oper) (base:Nat) (recs:Nat→Rec):List Nat→St→St→Prop
 |nil (s:St):RunL P tb ops base recs [] s s
 |cons (i:Nat) (l:List Nat) (s s':St) (o:Oper) (ho:ops[i]? =some o) (h:OpRun P tb ops s (base+i) o (recs i)) (t:RunL P tb ops base recs l ((recs i).on o.dst s) s'):RunL P tb ops base recs (i::l) s s'
section
variable {P:Program} {tb:Tab} {ops:Array Oper} {base:Nat} {recs:Nat→Rec}
def Qm3 (ops:Array Oper) (recs:Nat→Rec) (k i:Nat):Prop:= ∀ok oi,ops[k]? =some ok→ops[i]? =some oi→Apart ops ok oi (recs k).acc (recs i).acc
theorem RunL.pull: ∀{pre:List Nat} {i:Nat} {post:List Nat} {s s':St},RunL P tb ops base recs (pre++i::post) s s'→(∀k∈pre,Qm3 ops recs k i)→RunL P tb ops base recs (i::(pre++post)) s s'
 | [],_,_,_,_,h,_=>h
 |k::pre,i,post,s,s',h,ha=>by
  cases h with
  |cons _ _ _ _ ok hok hk t=>
   have ih:=RunL.pull t fun x hx=>ha x (by simp [hx])
   cases ih with
   |cons _ _ _ _ oi hoi hi t'=>
    obtain⟨h1,h2,h3⟩:=swap hk hi (ha k (by simp) ok oi hok hoi)
    exact .cons i _ s s' oi hoi h1 (.cons k _ _ _ ok hok h2 (by rw [←h3];exact t'))
def Qim (ms:List Nat) (o:Oper):Nat:=o.after.toList.foldl (fun m e=>if Region.binds .any e then(m ||| 2^e.on) ||| ms.getD e.on 0 else m) 0
def cloL:List Oper→List Nat→List Nat
 | [],ms=>ms
 |o::rest,ms=>cloL rest (ms++[Qim ms o])
theorem Qgd: ∀(os:List Oper) (ms:List Nat) (j:Nat),j<ms.length→(cloL os ms)[j]? =ms[j]?
 | [],_,_,_=>rfl
 |o::os,ms,j,h=>by
  rw [cloL,Qgd os _ j (by simp;omega),List.getElem?_append_left h]
theorem Qoc: ∀(os:List Oper) (ms:List Nat) (j:Nat) (o:Oper),os[j]? =some o→ ∃ms',(cloL os ms)[ms.length+j]? =some (Qim ms' o)∧(∀k,k<ms.length+j→ms'[k]? =(cloL os ms)[k]?)∧ms'.length=ms.length+j
 | [],_,_,_,h=>by simp at h
 |o::os,ms,0,o',h=>by
  simp at h
  subst h
  refine⟨ms,?_,?_,rfl⟩
  ·rw [cloL,Qgd os _ _ (by simp)];simp
  ·intro k hk
   rw [cloL,Qgd os _ _ (by simp;omega),List.getElem?_append_left hk]
 |o::os,ms,j+1,o',h=>by
  obtain⟨ms',h1,h2,h3⟩:=Qoc os (ms++[Qim ms o]) j o' (by simpa using h)
  have e:(ms++[Qim ms o]).length+j=ms.length+(j+1):=by simp;omega
  rw [e]at h1 h2 h3
  exact⟨ms',h1,h2,h3⟩
theorem Qm4 {ms:List Nat} {o:Oper} {k:Nat} (h:(Qim ms o).testBit k=true): ∃e∈o.after.toList,Region.binds .any e=true∧(e.on=k∨(ms.getD e.on 0).testBit k=true):=by
 have key: ∀(l:List Edge) (m:Nat),(l.foldl (fun m e=>if Region.binds .any e then(m ||| 2^e.on) ||| ms.getD e.on 0 else m) m).testBit k=true→
   m.testBit k=true∨ ∃e∈l,Region.binds .any e=true∧(e.on=k∨(ms.getD e.on 0).testBit k=true):=by
  intro l
  induction l with
  |nil=>intro m h;exact .inl h
  |cons e l ih=>
   intro m h
   rw [List.foldl_cons]at h
   rcases ih _ h with h'|⟨e',he',h'⟩
   ·by_cases hb:Region.binds .any e=true
    ·rw [if_pos hb,Nat.testBit_or,Nat.testBit_or,Bool.or_eq_true,Bool.or_eq_true,Nat.testBit_two_pow]at h'
     rcases h' with(h'|h')|h'
     ·exact .inl h'
     ·exact .inr ⟨e,by simp,hb,.inl (by simpa using h')⟩
     ·exact .inr ⟨e,by simp,hb,.inr h'⟩
    ·rw [if_neg hb]at h';exact .inl h'
   ·exact .inr ⟨e',by simp [he'],h'⟩
 rcases key _ 0 h with h|h
 ·simp at h
 ·exact h
def Qjq (ops:Array Oper) (listed:Array Bool):Prop:= ∀i o,listed.getD i true=true→ops[i]? =some o→ ∀e∈o.after.toList,Region.binds .any e=true→listed.getD e.on false=true
theorem Qpw {listed:Array Bool} (hs:listed.size=ops.size) (hd:Qjq ops listed) (hlt: ∀i o,ops[i]? =some o→ ∀e∈o.after.toList,Region.binds .any e=true→e.on<i):
  ∀(i:Nat) (o:Oper),ops[i]? =some o→(∀e∈o.after.toList,Region.binds .any e=true→listed.getD e.on false=true)→ ∀k,((cloL ops.toList []).getD i 0).testBit k=true→listed.getD k false=true:=by
 intro i
 induction i using Nat.strongRecOn with
 |_ i ih=>
  intro o ho hdeps k hk
  obtain⟨ms',h1,h2,h3⟩:=Qoc ops.toList [] i o (by simpa using ho)
  simp only [List.length_nil,Nat.zero_add]at h1 h2 h3
  rw [List.getD_eq_getElem?_getD,h1,Option.getD_some]at hk
  obtain⟨e,he,hb,hk⟩:=Qm4 hk
  rcases hk with rfl|hk
  ·exact hdeps e he hb
  ·have hei:=hlt i o ho e he hb
   rw [List.getD_eq_getElem?_getD,h2 _ hei,←List.getD_eq_getElem?_getD]at hk
   have hin:i<ops.size:=(Array.getElem?_eq_some_iff.1 ho).1
   have hoe:ops[e.on]? =some ops[e.on]:=Array.getElem?_eq_getElem (by omega)
   have hle:=hdeps e he hb
   refine ih e.on hei ops[e.on] hoe (hd e.on _ ?_ hoe) k hk
   have:e.on<listed.size:=by omega
   simp only [Array.getD,this,dif_pos]at hle ⊢
   exact hle
def remaining (ops:Array Oper) (listed:Array Bool):List Nat:=(List.range ops.size).filter fun i=> !listed.getD i true
theorem Qko (listed:Array Bool) (i k:Nat) (h:i<listed.size) (d:Bool):(listed.setIfInBounds i true).getD k d=if k=i then true else listed.getD k d:=by
 by_cases hk:k=i
 ·subst hk;simp [Array.getD,h]
 ·simp only [hk,if_false]
  have hne: ¬i=k:=fun e=>hk e.symm
  by_cases hb:k<listed.size
  ·simp [Array.getD,hb,Array.getElem_setIfInBounds,hne]
  ·simp [Array.getD,hb]
theorem Qkp {listed:Array Bool} (hs:listed.size=ops.size) {i:Nat} {pre post:List Nat} (hi:i<ops.size) (hr:remaining ops listed=pre++i::post):
  remaining ops (listed.setIfInBounds i true)=pre++post∧(∀k∈pre,k<i):=by
 have hpw:(remaining ops listed).Pairwise (· < ·):=List.Pairwise.filter _ (List.pairwise_lt_range)
 rw [hr]at hpw
 obtain⟨p1,p2,p3⟩:=List.pairwise_append.1 hpw
 obtain⟨p4,p5⟩:=List.pairwise_cons.1 p2
 have hpre: ∀k∈pre,k<i:=fun k hk=>p3 k hk i (by simp)
 refine⟨?_,hpre⟩
 have e1:remaining ops (listed.setIfInBounds i true)=(remaining ops listed).filter fun k=> !(k==i):=by
  simp only [remaining,List.filter_filter]
  apply List.filter_congr
  intro k _
  rw [Qko listed i k (by omega)]
  by_cases hk:k=i
  ·simp [hk]
  ·simp [hk]
 rw [e1,hr,List.filter_append,List.filter_cons]
 simp only [beq_self_eq_true,Bool.not_true,Bool.false_eq_true,if_false]
 congr 1
 ·exact List.filter_eq_self.2 fun k hk=>by have:=hpre k hk;simp;omega
 ·exact List.filter_eq_self.2 fun k hk=>by have:=p4 k hk;simp;omega
theorem Qsr (hlt: ∀i o,ops[i]? =some o→ ∀e∈o.after.toList,Region.binds .any e=true→e.on<i)
  (hap: ∀k i,k<i→i<ops.size→((cloL ops.toList []).getD i 0).testBit k=false→Qm3 ops recs k i):
  ∀(fuel t:Nat) (listed:Array Bool) (s s':St),listed.size=ops.size→Qjq ops listed→(remaining ops listed).length≤fuel→RunL P tb ops base recs (remaining ops listed) s s'→
   RunL P tb ops base recs (Region.linearise.go .any ops fuel t listed []) s s':=by
 intro fuel
 induction fuel with
 |zero=>
  intro t listed s s' _ _ hf h
  have:remaining ops listed=[]:=List.length_eq_zero_iff.1 (by omega)
  rw [this]at h
  simpa [Region.linearise.go]using h
 |succ fuel ih=>
  intro t listed s s' hs hd hf h
  simp only [Region.linearise.go]
  change RunL P tb ops base recs (match(Region.ready .any ops listed)[t%(Region.ready .any ops listed).length]? with
   |some i=>Region.linearise.go .any ops fuel (t/(Region.ready .any ops listed).length) (listed.setIfInBounds i true) [i]
   |none=>[].reverse) s s'
  cases hi:(Region.ready .any ops listed)[t%(Region.ready .any ops listed).length]? with
  |none=>
   have hnil:Region.ready .any ops listed=[]:=by
    cases hr:Region.ready .any ops listed with
    |nil=>rfl
    |cons x xs=>
     rw [hr]at hi
     have hlt':t%(x::xs).length<(x::xs).length:=Nat.mod_lt _ (by simp)
     rw [List.getElem?_eq_none_iff]at hi
     omega
   -- then nothing remains
   cases hrem:remaining ops listed with
   |nil=>rw [hrem]at h;simpa using h
   |cons i0 rest=>
    exfalso
    have hi0:i0∈remaining ops listed:=by rw [hrem];simp
    have hmem:=List.mem_filter.1 hi0
    have hi0n:i0<ops.size:=List.mem_range.1 hmem.1
    have:i0∈Region.ready .any ops listed:=by
     refine List.mem_filter.2 ⟨hmem.1,?_⟩
     have hoi:ops[i0]? =some ops[i0]:=Array.getElem?_eq_getElem hi0n
     simp only [Bool.and_eq_true,hoi,Option.map_some,Option.getD_some,hmem.2,true_and,Array.all_eq_true',Bool.or_eq_true,Bool.not_eq_true']
     intro e he
     by_cases hb:Region.binds .any e=true
     ·right
      have hei:=hlt i0 _ hoi e (by simpa using he) hb
      rcases hl:listed.getD e.on true with _|_
      ·-- e.on would remain,before i0
       exfalso
       have hin:e.on∈remaining ops listed:=List.mem_filter.2 ⟨List.mem_range.2 (by omega),by simp [hl]⟩
       have hpw:(remaining ops listed).Pairwise (· < ·):=List.Pairwise.filter _ (List.pairwise_lt_range)
       rw [hrem]at hpw hin
       rcases List.mem_cons.1 hin with x|x
       ·omega
       ·have:=(List.pairwise_cons.1 hpw).1 _ x;omega
      ·have:e.on<listed.size:=by omega
       simp only [Array.getD,this,dif_pos]at hl ⊢
       exact hl
     ·left;simpa using hb
    rw [hnil]at this
    simp at this
  |some i=>
   simp only []
   rw [linearise_go_acc,List.reverse_singleton,List.singleton_append]
   have himem:i∈Region.ready .any ops listed:=List.mem_of_getElem? hi
   obtain⟨hir,hic⟩:=List.mem_filter.1 himem
   have hin:i<ops.size:=List.mem_range.1 hir
   have hoi:ops[i]? =some ops[i]:=Array.getElem?_eq_getElem hin
   simp only [Bool.and_eq_true,hoi,Option.map_some,Option.getD_some,Array.all_eq_true',Bool.or_eq_true,Bool.not_eq_true']at hic
   have hdeps: ∀e∈ops[i].after.toList,Region.binds .any e=true→listed.getD e.on false=true:=by
    intro e he hb
    rcases hic.2 e (by simpa using he)with x|x
    ·rw [hb]at x;cases x
    ·exact x
   have hrem:i∈remaining ops listed:=List.mem_filter.2 ⟨hir,by simp [hic.1]⟩
   obtain⟨pre,post,hsplit⟩:=List.append_of_mem hrem
   obtain⟨e1,e2⟩:=Qkp hs hin hsplit
   rw [hsplit]at h
   have hpull:=h.pull fun k hk=>by
    refine hap k i (e2 k hk) hin ?_
    cases hb:((cloL ops.toList []).getD i 0).testBit k with
    |false=>rfl
    |true=>
     have hl:=Qpw hs hd hlt i _ hoi hdeps k hb
     have hkr:k∈remaining ops listed:=by rw [hsplit];simp [hk]
     have hkf:=(List.mem_filter.1 hkr).2
     have hkn:k<ops.size:=List.mem_range.1 (List.mem_filter.1 hkr).1
     have:k<listed.size:=by omega
     simp only [Array.getD,this,dif_pos,Bool.not_eq_true']at hl hkf
     rw [hl]at hkf;cases hkf
   cases hpull with
   |cons _ _ _ _ o ho hrun ht=>
    refine .cons i _ s s' o ho hrun (ih _ _ _ _ (by simpa using hs) ?_ ?_ (by rw [e1];exact ht))
    ·intro j o' hj ho' e he hb
     rw [Qko listed i e.on (by omega)]
     rw [Qko listed i j (by omega)]at hj
     by_cases hji:j=i
     ·subst hji
      rw [hoi]at ho';cases ho'
      rw [hdeps e he hb];simp
     ·simp only [hji,if_false]at hj
      rw [hd j o' hj ho' e he hb];simp
    ·rw [e1]
     have:=congrArg List.length hsplit
     simp at this ⊢
     omega
end
section
variable {C:Ctx} {tb:Tab} {rd:Option Nat} {ops:Array Oper} {base:Nat} {recs:Nat→Rec} {Q:Exit→Act→World→Prop}
theorem Qm5 (hL:base+ops.size≤LENT) (hd: ∀(i:Nat) (o:Oper),ops[i]? =some o→ ∀t,o.dst=some t→t<C.nt): ∀{l:List Nat} {s s':St} {a:Act} {w:World},RunL C.P tb ops base recs l s s'→Rel C s a w→(∀a' w',Rel C s' a' w'→Q .normal a' w')→
  wpOpsIn (FW rd) 0 C.P ops Q l a w
 | [],s,s',a,w,h,hr,hQ=>by cases h;exact hQ a w hr
 |i::l,s,s',a,w,h,hr,hQ=>by
  cases h with
  |cons _ _ _ _ o ho hrun t=>
   have hi:i<ops.size:=(Array.getElem?_eq_some_iff.1 ho).1
   have:=Qwj (rd:=rd) (K:=wpOpsIn (FW rd) 0 C.P ops Q l) (Q:=Q) hr hrun (by omega) (hd i o ho) fun a' w' hr'=>Qm5 hL hd t hr' hQ
   simp only [wpOpsIn,ho]
   exact this
theorem Rel.drew {s:St} {a:Act} {w:World} (h:Rel C s a w):Rel C s a {w with drawn:=w.drawn+1}:=by
 obtain⟨ρ,im,h⟩:=h
 exact⟨ρ,im,h.world (w':=w.drew) (.of_below ((Below.refl _ _).drew)) ⟨fun _ _ _=>rfl,fun _ cur _ x=>⟨cur,x,rfl⟩,fun _ _ x _=>x⟩ fun _ _ _ _ _ _=>rfl⟩
def Qjr (ops:Array Oper) (accs:List Acc):Bool:=
 let clo:=cloL ops.toList []
 (ops.toList.zipIdx.all fun(o,i)=>o.after.toList.all fun e=> !Region.binds .any e||decide (e.on<i))&&
 (ops.toList.zipIdx.all fun(oi,i)=>(ops.toList.zipIdx.take i).all fun(ok,k)=>(clo.getD i 0).testBit k||Qsp ops ok oi (accs.getD k []) (accs.getD i []))
theorem Qm6 {accs:List Acc} (h:Qjr ops accs=true) (hrec: ∀i,i<ops.size→(recs i).acc=accs.getD i []):
  (∀i o,ops[i]? =some o→ ∀e∈o.after.toList,Region.binds .any e=true→e.on<i)∧
  (∀k i,k<i→i<ops.size→((cloL ops.toList []).getD i 0).testBit k=false→Qm3 ops recs k i):=by
 simp only [Qjr,Bool.and_eq_true,List.all_eq_true]at h
 obtain⟨h1,h2⟩:=h
 refine⟨?_,?_⟩
 ·intro i o ho e he hb
  have:=h1 (o,i) (by rw [List.mem_zipIdx_iff_getElem?];simpa using ho) e he
  simpa [hb]using this
 ·intro k i hki hi hbit ok oi hok hoi
  have:=h2 (oi,i) (by rw [List.mem_zipIdx_iff_getElem?];simpa using hoi) (ok,k) (by
   rw [List.mem_iff_getElem?]
   refine⟨k,?_⟩
   rw [List.getElem?_take_of_lt hki,List.getElem?_zipIdx]
   simp [hok])
  simp only [hbit,Bool.false_or]at this
  rw [hrec k (by omega),hrec i hi]
  exact Qmy this
theorem Qfv:remaining ops (Array.replicate ops.size false)=List.range ops.size:=by
 simp only [remaining]
 exact List.filter_eq_self.2 fun i hi=>by
  have:i<ops.size:=List.mem_range.1 hi
  simp [Array.getD,this]
theorem Qss {id:Nat} {draw:Bool} {s s':St} {a:Act} {w:World} (hm:C.P.follows .mixedOrders=true) (hL:base+ops.size≤LENT) (hd: ∀(i:Nat) (o:Oper),ops[i]? =some o→ ∀t,o.dst=some t→t<C.nt)
  (h:RunL C.P tb ops base recs (List.range ops.size) s s') (hr:Rel C s a w) {accs:List Acc} (hacc: ∀i,i<ops.size→(recs i).acc=accs.getD i []) (hdraw:draw=true→Qjr ops accs=true)
  (hQ: ∀a' w',Rel C s' a' w'→Q .normal a' w'):(Code.region id ops draw).wpIn (FW rd) 0 C.P Q a w:=by
 cases draw with
 |false=>exact wpIn_region (Qm5 hL hd h hr hQ)
 |true=>
  refine wpIn_region_draw fun t=> ?_
  obtain⟨h1,h2⟩:=Qm6 (hdraw rfl) hacc
  simp only [Region.schedule,hm,Bool.true_or,if_true]
  refine Qm5 (tb:=tb) (base:=base) (recs:=recs) hL hd (Qsr (base:=base) (recs:=recs) h1 h2 ops.size t _ s s' (by simp) ?_ ?_ ?_) hr.drew hQ
  ·intro i o hi ho
   have hin:i<ops.size:=(Array.getElem?_eq_some_iff.1 ho).1
   simp [Array.getD,hin]at hi
  ·rw [Qfv];simp
  ·rw [Qfv];exact h
end
end Go.Vl
