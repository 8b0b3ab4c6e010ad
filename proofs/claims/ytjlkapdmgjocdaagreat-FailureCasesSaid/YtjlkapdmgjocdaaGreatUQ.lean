/-
  UO, UP, UQ (merged for the claim).
-/
import Derived.Test.YtjlkapdmgjocdaaGreatUN
import Derived.RangeFuncLeaves
import Derived.KernelRfl
import Derived.IntWalk
set_option linter.unusedSimpArgs false
set_option linter.unusedVariables false
namespace Go.Vl
open Go.RowKit
def Le (st st':St):Prop:= ∀(C:Ctx) (a:Act) (w:World),Rel C st a w→Rel C st' a w
theorem Le.refl (st:St):Le st st:=fun _ _ _ h=>h
theorem Le.trans {s t u:St} (h:Le s t) (k:Le t u):Le s u:=fun C a w x=>k C a w (h C a w x)
structure RD (C:Ctx) where
 rd:Option Nat
 ok:C.yl=none→rd=none
def Vwp (P:Program) (nt:Nat) (c:Code) (Q:Exit→St→Prop) (st:St):Prop:=
 ∀(C:Ctx),C.P=P→C.nt=nt→ ∀(rd:RD C) (a:Act) (w:World),Rel C st a w→c.wpIn (FW rd.rd) 0 P (fun e a' w'=> ∃st',Q e st'∧Rel C st' a' w') a w
def vthen (K:St→Prop) (Q:Exit→St→Prop):Exit→St→Prop
 | .normal,s=>K s
 |e,s=>Q e s
def vblock (id:Nat) (Q:Exit→St→Prop):Exit→St→Prop
 | .exit i,s=>if i=id then Q .normal s else Q (.exit i) s
 |e,s=>Q e s
section
variable {P:Program} {nt:Nat} {Q:Exit→St→Prop} {st:St}
theorem Qfw {c:Code} {Q':Exit→St→Prop} (h:Vwp P nt c Q st) (hq: ∀e s,Q e s→Q' e s):Vwp P nt c Q' st:=
 fun C h1 h2 rd a w hr=>wpIn_mono (h C h1 h2 rd a w hr) fun _ _ _ ⟨s,q,r⟩=>⟨s,hq _ _ q,r⟩
theorem Qwo (h:Q .normal st):Vwp P nt .skip Q st:=fun _ _ _ _ _ _ hr=>wpIn_skip ⟨st,h,hr⟩
theorem Qst {l:Nat} (h:Q .normal st):Vwp P nt (.label l) Q st:=fun _ _ _ _ _ _ hr=>wpIn_label ⟨st,h,hr⟩
theorem Qwp {id:Nat} (h:Q (.exit id) st):Vwp P nt (.exit id) Q st:=fun _ _ _ _ _ _ hr=>wpIn_exit ⟨st,h,hr⟩
theorem Q0v (h:Q .ret st):Vwp P nt .ret Q st:=fun _ _ _ _ _ _ hr=>wpIn_ret ⟨st,h,hr⟩
theorem Q0w {x y:Code} (h:Vwp P nt x (vthen (Vwp P nt y Q) Q) st):Vwp P nt (.seq x y) Q st:=fun C h1 h2 rd a w hr=>
 wpIn_seq (wpIn_mono (h C h1 h2 rd a w hr) fun e a' w' ⟨s,q,r⟩=>by
  cases e with
  |normal=>exact q C h1 h2 rd a' w' r
  |_=>exact⟨s,q,r⟩)
theorem Qsu {id:Nat} {c:Code} (h:Vwp P nt c (vblock id Q) st):Vwp P nt (.block id c) Q st:=fun C h1 h2 rd a w hr=>
 wpIn_block (wpIn_mono (h C h1 h2 rd a w hr) fun e a' w' ⟨s,q,r⟩=>by
  cases e with
  |exit i=>
   simp only [vblock]at q
   simp only [Exit.inBlock]
   split
   ·rename_i hi;rw [if_pos hi]at q;exact⟨s,q,r⟩
   ·rename_i hi;rw [if_neg hi]at q;exact⟨s,q,r⟩
  |_=>exact⟨s,q,r⟩)
theorem Qod {c:Operand} {x y:Code} {b:Bool} (hc:st.ev c=some (.bool b)) (h:Vwp P nt (if b then x else y) Q st):Vwp P nt (.cond c x y) Q st:=fun C h1 h2 rd a w hr=>by
 obtain⟨ρ,im,hr'⟩:=hr
 exact wpIn_cond (Qr5 hr' hc).bool_inv (h C h1 h2 rd a w ⟨ρ,im,hr'⟩)
theorem Qkq {α:Type} (I:α→St) (μ:α→Nat) {c:Code} (x0:α) (h0:Le st (I x0)) (round: ∀x,Vwp P nt c (vthen (fun s=> ∃y,μ y<μ x∧Le s (I y)) Q) (I x)):
  Vwp P nt (.loop c) Q st:=fun C h1 h2 rd a w hr=>by
 subst h1;subst h2
 intro b k cs hro hb hroom
 have key: ∀n x,μ x=n→ ∀a w,Rel C (I x) a w→ ∃e a' w',(∃st',Q e st'∧Rel C st' a' w')∧ArrivesIn (Machine.fenced C.P (FW rd.rd)) C.P (lone (b.atR a (.code c:: .inLoop c::k)) cs w) b k cs e a' w':=by
  intro n
  induction n using Nat.strongRecOn with
  |_ n ih=>
   intro x hx a w hr
   obtain⟨e,a₁,w₁,⟨s,hq,hr1⟩,harr⟩:=round x C rfl rfl rd a w hr b (.inLoop c::k) cs hro hb hroom
   cases e with
   |normal=>
    obtain⟨y,hlt,hle⟩:=hq
    obtain⟨e₂,a₂,w₂,hq₂,harr₂⟩:=ih (μ y) (hx▸hlt) y rfl a₁ w₁ (hle C a₁ w₁ hr1)
    exact⟨e₂,a₂,w₂,hq₂,.of_steps (StepsIn.trans harr (.one (fenced_calm hb hroom rfl) stepR_inLoop)) harr₂⟩
   |exit id=>exact⟨_,a₁,w₁,⟨s,hq,hr1⟩,.pass (x:= .inLoop c) rfl (fun _ _=> .inl (by simp)) harr⟩
   |goto l=>exact⟨_,a₁,w₁,⟨s,hq,hr1⟩,.pass (x:= .inLoop c) rfl (fun _ _=> .inl (by simp)) harr⟩
   |ret=>exact⟨_,a₁,w₁,⟨s,hq,hr1⟩,.pass (x:= .inLoop c) rfl (fun _ _=> .inl (by simp)) harr⟩
   |panic ch=>exact⟨_,a₁,w₁,⟨s,hq,hr1⟩,.pass (x:= .inLoop c) rfl (fun _ _=> .inl (by simp)) harr⟩
   |outgrown=>exact⟨_,a₁,w₁,⟨s,hq,hr1⟩,.pass (x:= .inLoop c) rfl (fun _ _=> .inl (by simp)) harr⟩
 obtain⟨e,a',w',hq,harr⟩:=key _ x0 rfl a w (h0 C a w hr)
 exact⟨e,a',w',hq,.of_steps (.one (fenced_calm hb hroom rfl) stepR_loop) harr⟩
def Qpx (nt:Nat) (o:Oper):Bool:=match o.dst with
 |some t=>decide (t<nt)
 |none=>true
def vcall (P:Program) (f:FuncId) (args:List PV) (K:PV→Prop):Prop:= ∃r,Qan P f args r∧K r
def Qhh (x:Option Bool) (no yes:Unit→Prop):Prop:=match x with
 |some false=>no ()
 |some true=>yes ()
 |none=>False
def Ql6 (x:Option (List PV)) (K:List PV→Prop):Prop:=match x with
 |some vs=>K vs
 |none=>False
def Qwq (P:Program) (o:List (List PV)) (yl:Yl) (x:Option (Out×Acc)) (K:PV→List Eff→Acc→Prop):Prop:=match x with
 |some (.done v es,l)=>K v es (l++Qbl es)
 |some (.call f args es,l)=>vcall P f args fun r=>K r (if Qfr r then []else es) (l++Qbl es)
 |some (.callB f args bxs es θ ν,l)=> ∃r bxs' r' ef,Qdl P f args bxs r bxs'∧land θ ν bxs' r=some (r',ef)∧K r' ((if Qf2 r bxs' then []else es)++ef) (l++Qbl es++Qbl ef)
 |some (.yield n stop args es,l)=>yOk yl n stop o args∧K (.bool (decide (o.length<stop))) (es++[.yld args]) (l++Qbl es++[(YID,true)])
 |none=>False
def vops (P:Program) (tb:Tab) (ops:Array Oper) (nt base:Nat):Nat→List Oper→St→List Acc→(St→List Acc→Prop)→Prop
 |_,[],st,accs,K=>K st accs
 |i,o::rest,st,accs,K=>Qpx nt o=true∧Qhh (Qbm ops o st) (fun _=>vops P tb ops nt base (i+1) rest (st.put o.dst (.tup [])) ([]::accs) K)
   (fun _=>Ql6 (st.evs o.op.operands.toList) fun vs=>Qwq P st.out st.yl (Qao P tb (base+i) o.op vs st.box) fun v es l=>vops P tb ops nt base (i+1) rest ((Qaf es st).put o.dst v) (l::accs) K)
theorem Qc4 {tb:Tab} {ops:Array Oper} {nt base:Nat} {K K':St→List Acc→Prop} (hK: ∀s l,K s l→K' s l): ∀(rest:List Oper) (i:Nat) (st:St) (accs:List Acc),
  vops P tb ops nt base i rest st accs K→vops P tb ops nt base i rest st accs K'
 | [],i,st,accs,h=>by simp only [vops]at h ⊢;exact hK _ _ h
 |o::rest,i,st,accs,h=>by
  simp only [vops]at h ⊢
  refine⟨h.1,?_⟩
  have h2:=h.2
  cases hw:Qbm ops o st with
  |none=>rw [hw]at h2;exact h2.elim
  |some b=>
   rw [hw]at h2
   cases b with
   |false=>exact Qc4 hK rest _ _ _ h2
   |true=>
    simp only [Qhh]at h2 ⊢
    cases hv:st.evs o.op.operands.toList with
    |none=>rw [hv]at h2;exact h2.elim
    |some vs=>
     rw [hv]at h2
     simp only [Ql6]at h2 ⊢
     cases ho:Qao P tb (base+i) o.op vs st.box with
     |none=>rw [ho]at h2;exact h2.elim
     |some p=>
      obtain⟨x,l⟩:=p
      rw [ho]at h2
      cases x with
      |done v es=>exact Qc4 hK rest _ _ _ h2
      |call f args es=>obtain⟨r,h3,h4⟩:=h2;exact⟨r,h3,Qc4 hK rest _ _ _ h4⟩
      |callB f args bxs es θ ν=>obtain⟨r,bxs',r',ef,h3,h4,h5⟩:=h2;exact⟨r,bxs',r',ef,h3,h4,Qc4 hK rest _ _ _ h5⟩
      |yield n stop args es=>obtain⟨h3,h5⟩:=h2;exact⟨h3,Qc4 hK rest _ _ _ h5⟩
theorem Qoe {tb:Tab} {ops:Array Oper} {nt base:Nat} {K:St→List Acc→Prop}: ∀(rest:List Oper) (i:Nat) (st:St) (accs:List Acc),(∀j:Nat,rest[j]? =ops[i+j]?)→vops P tb ops nt base i rest st accs K→
  ∃(recs:List Rec) (st':St),recs.length=rest.length∧(∀o∈rest,Qpx nt o=true)∧K st' ((recs.map Rec.acc).reverse++accs)∧
   ∀f:Nat→Rec,(∀j:Nat,j<recs.length→some (f (i+j))=recs[j]?)→RunL P tb ops base f (List.range' i rest.length) st st'
 | [],i,st,accs,_,h=>⟨[],st,rfl,by simp,by simpa [vops]using h,fun f _=> .nil st⟩
 |o::rest,i,st,accs,hg,h=>by
  obtain⟨hd,h⟩:=h
  have ho:ops[i]? =some o:=by simpa using (hg 0).symm
  have hg': ∀j:Nat,rest[j]? =ops[i+1+j]? :=fun j=>by have:=hg (j+1);simpa [Nat.add_assoc,Nat.add_comm 1 j]using this
  have go: ∀(r:Rec),OpRun P tb ops st (base+i) o r→vops P tb ops nt base (i+1) rest (r.on o.dst st) (r.acc::accs) K→
    ∃(recs:List Rec) (st':St),recs.length=(o::rest).length∧(∀o'∈o::rest,Qpx nt o'=true)∧K st' ((recs.map Rec.acc).reverse++accs)∧
     ∀f:Nat→Rec,(∀j:Nat,j<recs.length→some (f (i+j))=recs[j]?)→RunL P tb ops base f (List.range' i (o::rest).length) st st':=by
   intro r hr hv
   obtain⟨recs,st',k1,k2,k3,k4⟩:=Qoe rest (i+1) _ _ hg' hv
   refine⟨r::recs,st',by simp [k1],?_,by simpa using k3,?_⟩
   ·intro o' ho'
    rcases List.mem_cons.1 ho' with rfl|ho'
    ·exact hd
    ·exact k2 o' ho'
   ·intro f hf
    have f0:f i=r:=by have:=hf 0 (by simp);simpa using this
    rw [List.length_cons,List.range'_succ]
    refine .cons i _ st st' o ho (by rw [f0];exact hr) ?_
    rw [f0]
    exact k4 f fun j hj=>by have:=hf (j+1) (by simp;omega);simpa [Nat.add_assoc,Nat.add_comm 1 j]using this
  cases hw:Qbm ops o st with
  |none=>rw [hw]at h;exact h.elim
  |some b=>
   rw [hw]at h
   cases b with
   |false=>exact go ⟨.tup [],[],[]⟩ (.skip hw) h
   |true=>
    simp only [Qhh]at h
    cases hvs:st.evs o.op.operands.toList with
    |none=>rw [hvs]at h;exact h.elim
    |some vs=>
     rw [hvs]at h
     simp only [Ql6]at h
     cases he:Qao P tb (base+i) o.op vs st.box with
     |none=>rw [he]at h;exact h.elim
     |some p=>
      obtain⟨x,l⟩:=p
      rw [he]at h
      cases x with
      |done v es=>exact go ⟨v,es,l++Qbl es⟩ (.done hw vs hvs v es l he) h
      |call f args es=>
       obtain⟨r,hs,h⟩:=h
       exact go ⟨r,if Qfr r then []else es,l++Qbl es⟩ (.call hw vs hvs f args es l r he hs) h
      |callB f args bxs es θ ν=>
       obtain⟨r,bxs',r',ef,hs,hl,h⟩:=h
       exact go ⟨r',(if Qf2 r bxs' then []else es)++ef,l++Qbl es++Qbl ef⟩ (.callB hw vs hvs f args bxs es θ ν l r bxs' r' ef he hs hl) h
      |yield n stop args es=>
       obtain⟨hy,h⟩:=h
       exact go ⟨.bool (decide (st.out.length<stop)),es++[Eff.yld args],l++Qbl es++[(YID,true)]⟩ (.yield hw vs hvs n stop args es l he hy) h
theorem Qpy {tb:Tab} {id:Nat} {ops:Array Oper} {draw:Bool} (base:Nat) (hm:P.follows .mixedOrders=true) (hL:base+ops.size≤LENT)
  (h:vops P tb ops nt base 0 ops.toList st [] fun st' accs=>(draw=true→Qjr ops accs.reverse=true)∧Q .normal st'):Vwp P nt (.region id ops draw) Q st:=fun C h1 h2 rd a w hr=>by
 subst h1;subst h2
 obtain⟨recs,st',k1,k2,⟨k3,k5⟩,k4⟩:=Qoe ops.toList 0 st [] (by simp) h
 have hrun:=k4 (fun j=>recs.getD j ⟨.undef,[],[]⟩) (fun j hj=>by simp [hj])
 have hr':List.range' 0 ops.toList.length=List.range ops.size:=by simp [List.range_eq_range']
 rw [hr']at hrun
 refine Qss hm hL ?_ hrun hr (accs:=recs.map Rec.acc) ?_ (by simpa using k3) fun a' w' hr''=>⟨st',k5,hr''⟩
 ·intro i o ho t ht
  have:=k2 o (by have:=List.mem_of_getElem? (show ops.toList[i]? =some o by simpa using ho);exact this)
  simpa [Qpx,ht]using this
 ·intro i hi
  have:i<recs.length:=by rw [k1];simpa using hi
  simp [this]
end
def St.ofG (vs:List (Nat×PV)) (bs:List (Nat×Box)) (o:List (List PV)) (y:Yl):St:=⟨lkp vs,lkp bs,o,y⟩
abbrev St.of (vs:List (Nat×PV)) (bs:List (Nat×Box)):St:=St.ofG vs bs [] none
section
variable (vs:List (Nat×PV)) (bs:List (Nat×Box)) (o:List (List PV)) (y:Yl)
theorem Q2s (t:Nat) (v:PV):(St.ofG vs bs o y).put (some t) v=St.ofG ((t,v)::vs) bs o y:=rfl
theorem Qm7 (v:PV):(St.ofG vs bs o y).put none v=St.ofG vs bs o y:=rfl
theorem Qsv (b:Nat) (B:Box):(St.ofG vs bs o y).setBox b B=St.ofG vs ((b,B)::bs) o y:=rfl
theorem Q2t (args:List PV):(Eff.yld args).on (St.ofG vs bs o y)=St.ofG vs bs (o++[args]) y:=rfl
theorem Q2u:(St.ofG vs bs o y).var=lkp vs:=rfl
theorem Qjs:(St.ofG vs bs o y).box=lkp bs:=rfl
theorem Q2v:(St.ofG vs bs o y).out=o:=rfl
theorem Q3v:(St.ofG vs bs o y).yl=y:=rfl
end
def Box.renames (θ:List (Nat×Nat)) (B' B:Box):Prop:=
 B'.esz=B.esz∧B'.ety=B.ety∧B'.fro=B.fro∧B'.live=B.live∧(B'.arr,B'.mp)=(B.arr,B.mp)∧
  ((B'.arr=true∧B.els=B'.els)∨(B'.arr=false∧ ∃v v',B'.els=[v']∧B.els=[v]∧ren1 θ v'=some v∧Qar v'.cells=true))
def Qad (θ:List (Nat×Nat)) (vs:List (Nat×PV)):List (Nat×PV)→Prop
 | []=>True
 |(t,v)::rest=>(match lkp vs t with
  |some x=>ren1 θ v=some x
  |none=>False)∧Qad θ vs rest
def Qdj (θ:List (Nat×Nat)) (bs:List (Nat×Box)):List (Nat×Box)→Prop
 | []=>True
 |(b,B')::rest=>(match lkp θ b with
  |some b0=>match lkp bs b0 with
   |some B=>Box.renames θ B' B
   |none=>False
  |none=>False)∧Qdj θ bs rest
theorem Qey {θ:List (Nat×Nat)} {vs vs':List (Nat×PV)} (h:Qad θ vs vs') {t:Nat} {v:PV} (hv:lkp vs' t=some v): ∃x,lkp vs t=some x∧ren1 θ v=some x:=by
 induction vs' with
 |nil=>cases hv
 |cons p rest ih=>
  obtain⟨k,x⟩:=p
  unfold lkp at hv
  split at hv
  ·rename_i e;cases hv;subst e
   have h1:=h.1
   cases e1:lkp vs t with
   |none=>rw [e1]at h1;exact h1.elim
   |some x=>rw [e1]at h1;exact⟨x,rfl,h1⟩
  ·exact ih h.2 hv
theorem Qg0 {θ:List (Nat×Nat)} {bs bs':List (Nat×Box)} (h:Qdj θ bs bs') {b:Nat} {B':Box} (hv:lkp bs' b=some B'): ∃b0 B,lkp θ b=some b0∧lkp bs b0=some B∧Box.renames θ B' B:=by
 induction bs' with
 |nil=>cases hv
 |cons p rest ih=>
  obtain⟨k,x⟩:=p
  unfold lkp at hv
  split at hv
  ·rename_i e
   cases hv
   subst e
   have h1:=h.1
   cases e1:lkp θ b with
   |none=>rw [e1]at h1;exact h1.elim
   |some b0=>
    rw [e1]at h1
    cases e2:lkp bs b0 with
    |none=>simp only [e2]at h1
    |some B=>simp only [e2]at h1;exact⟨b0,B,rfl,e2,h1⟩
  ·exact ih h.2 hv
section
variable {w:World} {im:Im} {ρ ρ':Rho} {θ:List (Nat×Nat)}
theorem Qof (hρ: ∀b b0 x,lkp θ b=some b0→ρ b0=some x→ρ' b=some x) {v v':PV} {u:Value} (hr:ren0 θ v'=some v) (h:LR w im ρ v u):LR w im ρ' v' u:=by
 unfold ren0 at hr
 split at hr
 ·rename_i b esz i off
  split at hr
  ·rename_i b0 hb
   cases hr
   obtain⟨g,hg,rfl⟩:=h.bp_inv
   exact .bp _ _ _ _ g _ (hρ _ _ _ hb hg) rfl
  ·cases hr
 ·rename_i b esz off len
  split at hr
  ·rename_i b0 hb
   cases hr
   rcases h.bs_inv with⟨e,⟨x,rfl⟩,rfl,rfl⟩|⟨g,cap,cur,e,hg,rfl,ho,hc,hl,hm⟩
   ·exact .bsNil _ _ x (hρ _ _ _ hb e)
   ·exact .bs _ _ _ _ g _ cap cur e (hρ _ _ _ hb hg) ho rfl hc hl hm
  ·cases hr
 ·rename_i b
  split at hr
  ·rename_i b0 hb
   cases hr
   obtain⟨g,hg,rfl⟩:=h.mp_inv
   exact .mp _ g (hρ _ _ _ hb hg)
  ·cases hr
 ·cases hr
  obtain⟨a,b,rfl,h1,h2⟩:=h.fn_inv
  cases h1.nil_inv;cases h2.nil_inv
  exact .ext _ _ (.fn _ [] [] [] [] .nil .nil)
 ·cases hr
 ·cases hr
 ·cases hr
 ·rename_i n1 n2 n3 n4 n5 n6 n7
  cases hr
  cases h with
  |ext _ _ h=>exact .ext _ _ h
  |undef u=>exact .undef u
  |bp=>exact absurd rfl (n1 _ _ _ _)
  |bsNil=>exact absurd rfl (n2 _ _ _ _)
  |bs=>exact absurd rfl (n2 _ _ _ _)
  |mp=>exact absurd rfl (n3 _)
  |agg=>exact absurd rfl (n6 _)
  |tup=>exact absurd rfl (n7 _)
  |fn=>exact absurd rfl (n5 _ _ _)
theorem Qd6 (hρ: ∀b b0 x,lkp θ b=some b0→ρ b0=some x→ρ' b=some x): ∀{vs vs':List PV} {us:List Value},Qae θ vs'=some vs→LRL w im ρ vs us→LRL w im ρ' vs' us
 |vs,[],us,hr,h=>by simp [Qae]at hr;subst hr;cases h.nil_inv;exact .nil
 |vs,v'::vs',us,hr,h=>by
  unfold Qae at hr
  split at hr
  ·cases hr
  ·rename_i x hx
   split at hr
   ·cases hr
   ·rename_i xs hxs
    cases hr
    obtain⟨u,us',rfl,h1,h2⟩:=h.cons_inv
    exact .cons _ _ _ _ (Qof hρ hx h1) (Qd6 hρ hxs h2)
theorem Qhi (hρ: ∀b b0 x,lkp θ b=some b0→ρ b0=some x→ρ' b=some x) {v v':PV} {u:Value} (hr:ren1 θ v'=some v) (h:LR w im ρ v u):LR w im ρ' v' u:=by
 unfold ren1 at hr
 split at hr
 ·split at hr
  ·rename_i xs hxs
   cases hr
   obtain⟨us,rfl,h1⟩:=h.agg_inv
   exact .agg _ _ (Qd6 hρ hxs h1)
  ·cases hr
 ·cases hr
  obtain⟨us,rfl,h1⟩:=h.tup_inv
  cases h1.nil_inv
  exact .tup [] [] .nil
 ·split at hr
  ·cases hr
  ·rename_i x hx
   split at hr
   ·cases hr
   ·rename_i y hy
    cases hr
    obtain⟨a,b,rfl,h1,h2⟩:=h.fn_inv
    exact .fn _ _ _ _ _ (Qd6 hρ hx h1) (Qd6 hρ hy h2)
 ·exact Qof hρ hr h
theorem Qg1: ∀{vs' vs:List PV},Qae θ vs'=some vs→vs'.length=vs.length
 | [],vs,h=>by simp [Qae]at h;subst h;rfl
 |v'::vs',vs,h=>by
  unfold Qae at h
  split at h
  ·cases h
  ·split at h
   ·cases h
   ·rename_i xs hxs
    cases h
    simp [Qg1 hxs]
theorem Qjt {v v':PV} (hr:ren1 θ v'=some v) (ho:Qar v'.cells=true):v'.cells.length=v.cells.length∧
  ∀(ρ ρ':Rho),(∀b b0 x,lkp θ b=some b0→ρ b0=some x→ρ' b=some x)→ ∀us,LRL w im ρ v.cells us→LRL w im ρ' v'.cells us:=by
 have one:v'.cells=[v']→v.cells=[v]→v'.cells.length=v.cells.length∧
   ∀(ρ ρ':Rho),(∀b b0 x,lkp θ b=some b0→ρ b0=some x→ρ' b=some x)→ ∀us,LRL w im ρ v.cells us→LRL w im ρ' v'.cells us:=by
  intro e1 e2
  rw [e1,e2]
  refine⟨rfl,fun ρ ρ' hρ us h=> ?_⟩
  obtain⟨u,rfl,h1⟩:=h.one_inv
  exact .cons _ _ _ _ (Qhi hρ hr h1) .nil
 cases v' with
 |agg cs=>
  simp only [ren1]at hr
  split at hr
  ·rename_i xs hxs
   cases hr
   exact⟨Qg1 hxs,fun ρ ρ' hρ us h=>Qd6 hρ hxs h⟩
  ·cases hr
 |tup vs=>simp [PV.cells,Qar,PV.okCell]at ho
 |undef=>simp [PV.cells,Qar,PV.okCell]at ho
 |fn f a c=>
  refine one rfl ?_
  cases ha:Qae θ a with
  |none=>simp [ren1,ha]at hr
  |some x=>
   cases hc:Qae θ c with
   |none=>simp [ren1,ha,hc]at hr
   |some y=>simp [ren1,ha,hc]at hr;subst hr;rfl
 |bp b e i o=>refine one rfl ?_;simp only [ren1,ren0]at hr;split at hr<;>cases hr;rfl
 |bs b e i o=>refine one rfl ?_;simp only [ren1,ren0]at hr;split at hr<;>cases hr;rfl
 |mp b=>refine one rfl ?_;simp only [ren1,ren0]at hr;split at hr<;>cases hr;rfl
 |_=>exact one rfl (by simp only [ren1,ren0,Option.some.injEq]at hr;subst hr;rfl)
end
def Qm8 (θ:List (Nat×Nat)) (bs':List (Nat×Box)):Bool:=Qg6 θ&&θ.all fun p=>(lkp bs' p.1).isSome&&(Nat.blt p.1 LENT||p.1==p.2)
theorem Qaq {θ:List (Nat×Nat)} {vs vs':List (Nat×PV)} {bs bs':List (Nat×Box)} {o:List (List PV)} {y:Yl} (hθ:Qm8 θ bs'=true) (hv:Qad θ vs vs') (hb:Qdj θ bs bs'):Le (St.ofG vs bs o y) (St.ofG vs' bs' o y):=by
 simp only [Qm8,Bool.and_eq_true]at hθ
 obtain⟨hκ,hθ⟩:=hθ
 have hinj: ∀b1 b2 b0,lkp θ b1=some b0→lkp θ b2=some b0→b1=b2:=by
  intro b1 b2 b0 e1 e2
  have z1:=(Qba hκ).1 e1
  have z2:=(Qba hκ).1 e2
  rw [z1]at z2;exact Option.some.inj z2
 have hall: ∀b b0,lkp θ b=some b0→(lkp bs' b).isSome=true∧(LENT≤b→b0=b):=by
  intro b b0 e
  have:=List.all_eq_true.1 hθ _ (Qbn e)
  simp only [Bool.and_eq_true,Bool.or_eq_true,beq_iff_eq]at this
  refine⟨this.1,fun hL=> ?_⟩
  rcases this.2 with q|q
  ·have:=Nat.le_of_ble_eq_true q;omega
  ·exact q.symm
 have hkey: ∀b b0,lkp θ b=some b0→(lkp bs' b).isSome=true:=fun b b0 e=>(hall b b0 e).1
 rintro C a w ⟨ρ,im,h⟩
 have hthere: ∀b B',lkp bs' b=some B'→ ∃b0 B x,lkp θ b=some b0∧lkp bs b0=some B∧Box.renames θ B' B∧ρ b0=some x:=by
  intro b B' hB'
  obtain⟨b0,B,e1,e2,e3⟩:=Qg0 hb hB'
  cases hx:ρ b0 with
  |none=>
   have:=(h.rho b0).1 hx
   simp only [Qjs]at this
   rw [e2]at this;cases this
  |some x=>exact⟨b0,B,x,e1,e2,e3,hx⟩
 obtain⟨ρ',hρ'⟩: ∃ρ':Rho,∀b,ρ' b=(lkp θ b).bind ρ:=⟨fun b=>(lkp θ b).bind ρ,fun _=>rfl⟩
 have hρ: ∀b b0 x,lkp θ b=some b0→ρ b0=some x→ρ' b=some x:=by
  intro b b0 x e1 e2;rw [hρ',e1];exact e2
 have hback: ∀b x,ρ' b=some x→ ∃b0,lkp θ b=some b0∧ρ b0=some x:=by
  intro b x e
  rw [hρ']at e
  cases hb0:lkp θ b with
  |none=>rw [hb0]at e;cases e
  |some b0=>rw [hb0]at e;exact⟨b0,rfl,e⟩
 refine⟨ρ',im,h.step ⟨.refl _ _ _,Keeps.refl _ _,?_,fun _ _ x=>x,fun _ _ x=> .inl x⟩ ?_,h.nt,h.dfr,h.imc,?_,?_,?_,?_⟩
 ·rintro g ⟨b,hb'⟩
  obtain⟨b0,_,e⟩:=hback b _ hb'
  exact .inl ⟨b0,e⟩
 ·intro b x x' hL h0 hx'
  obtain⟨b0,e1,e2⟩:=hback b x' hx'
  rw [(hall b b0 e1).2 hL]at e2
  exact h.root.rho0 b x x' hL h0 e2
 ·intro t v hvt
  obtain⟨x,e1,e2⟩:=Qey hv hvt
  exact Qhi hρ e2 (h.var t x e1)
 ·intro b
  constructor
  ·intro e
   cases hB':lkp bs' b with
   |none=>exact hB'
   |some B'=>
    obtain⟨b0,B,x,e1,_,_,e4⟩:=hthere b B' hB'
    rw [hρ b b0 x e1 e4]at e;cases e
  ·intro e
   rw [hρ']
   cases hb0:lkp θ b with
   |none=>rfl
   |some b0=>have:=hkey b b0 hb0;simp only [Qjs]at e;rw [e]at this;cases this
 ·intro b x B' hx hB'
  obtain⟨b0,B,x0,e1,e2,⟨r1,r2,r3,r4,r5,r6⟩,e4⟩:=hthere b B' hB'
  obtain⟨r5,rm⟩:=Prod.mk.inj r5
  rw [hρ b b0 x0 e1 e4]at hx
  cases hx
  have hbox:=h.box b0 x B e4 e2
  cases x with
  |none=>
   obtain⟨z1,z2,z3,z4⟩:=hbox
   rcases r6 with⟨_,r6⟩|⟨q1,v,v',q2,q3,_⟩
   ·exact⟨by rw [←r6];exact z1,by rw [r5];exact z2,by rw [r3];exact z3,by rw [r1];exact z4⟩
   ·rw [q3]at z1;cases z1
  |some g=>
   obtain⟨h1,h2,h3,h4,⟨hmn,cur,us,rest,h5,h6,h7,h8,h9,h10,h11⟩|hm⟩:=hbox
   case inr=>
    rcases r6 with⟨ra,r6⟩|⟨q1,v,v',q2,q3,q4,q5⟩
    ·obtain⟨m1,m2,m3,m4⟩:=hm
     exact⟨h1,by rw [r3,←r6];exact h2,by rw [r1];exact h3,by rw [r1,←r6];exact h4,.inr ⟨by rw [←r6];exact m1,ra,by rw [r4];exact m3,by rw [rm];exact m4⟩⟩
    ·rw [hm.1]at q3;cases q3
   rcases r6 with⟨ra,r6⟩|⟨q1,v,v',q2,q3,q4,q5⟩
   ·refine⟨h1,by rw [r3,←r6];exact h2,by rw [r1];exact h3,by rw [r1,←r6];exact h4,.inl ⟨rm.trans hmn,cur,us,rest,by rw [r2];exact h5,h6,?_,by rw [r5,←r6];exact h8,h9,by rw [r3,r1,r4];exact h10,by rw [r3,r1,r4];exact h11⟩⟩
    rw [←r6]
    exact(h8 (by rw [←r5];exact ra)).toLRL
   ·obtain⟨k1,k2⟩:=Qjt (w:=w) (im:=im) q4 q5
    rw [q3]at h2 h4 h7 h8
    simp only [List.flatMap_cons,List.flatMap_nil,List.append_nil]at h7 h8
    refine⟨h1,by rw [r3,q2];exact h2,by rw [r1];exact h3,?_,.inl ⟨rm.trans hmn,cur,us,rest,by rw [r2];exact h5,h6,?_,?_,h9,by rw [r3,r1,r4];exact h10,by rw [r3,r1,r4];exact h11⟩⟩
    ·intro e he
     rw [q2]at he
     simp only [List.mem_singleton]at he
     subst he
     rw [k1,r1]
     exact h4 v (by simp)
    ·rw [q2];simpa using k2 ρ ρ' hρ us h7
    ·intro ha;rw [q1]at ha;cases ha
 ·intro b1 b2 g B1 B2 p1 p2 e1 e2 l1 l2
  obtain⟨b01,t1,t2⟩:=hback b1 _ p1
  obtain⟨b02,t3,t4⟩:=hback b2 _ p2
  obtain⟨c01,D1,x1,u1,u2,⟨_,_,_,v1,_⟩,u4⟩:=hthere b1 B1 e1
  obtain⟨c02,D2,x2,u5,u6,⟨_,_,_,v2,_⟩,u8⟩:=hthere b2 B2 e2
  rw [t1]at u1;cases u1
  rw [t3]at u5;cases u5
  have:=h.inj b01 b02 g D1 D2 t2 t4 u2 u6 (by rw [←v1];exact l1) (by rw [←v2];exact l2)
  subst this
  exact hinj b1 b2 b01 t1 t3
theorem Q2w {st:St} {t b esz:Nat} {ety:TypeId} (hbL:Nat.blt b LENT=true) (ht:st.var t=some .nilS) (hb:st.box b=none) (hz:0<esz):
  Le st ((st.setBox b {els:=[],esz:=esz,ety:=ety,fro:=0,live:=true,arr:=true}).setVar t (.bs b esz 0 0)):=by
 rintro C a w ⟨ρ,im,h⟩
 have hv:=(h.var t _ ht).nilS_inv
 obtain⟨h1,h2⟩:=h.addBox ⟨.refl _ _ _,Keeps.refl _ _,fun _ x=> .inl x,fun _ _ x=>x,fun _ _ x=> .inl x⟩ h (Nat.le_of_ble_eq_true hbL) hb {els:=[],esz:=esz,ety:=ety,fro:=0,live:=true,arr:=true} none (by intro g e;cases e) ⟨rfl,rfl,rfl,hz⟩ (by intro b' g B' e;cases e)
 refine⟨upd ρ b (some none),im,h1.root,h1.nt,h1.dfr,h1.imc,?_,h1.rho,h1.box,h1.inj⟩
 intro t' v' hv'
 simp only [St.setVar,upd]at hv'
 split at hv'
 ·rename_i e
  cases hv'
  subst e
  rw [hv]
  exact .bsNil b esz none (Qah _ _ _)
 ·exact h1.var t' v' hv'
def Qkr (P:Program) (st:St):ResultVar→M PV
 | .tmp t=> .ofOpt (st.var t)
 | .cell p T=>match st.var p with
  |some (.bp b esz i off)=> .bind (.soft b) fun B=> .bind (.ok (B.esz==esz)) fun _=> .bind (.ofOpt B.els[i]?) fun e=> .ofOpt (Qb2 P T e.cells off)
  |some (.rp cs)=> .ofOpt (Qb2 P T cs 0)
  |_=> .fail
def Qcu (P:Program) (st:St):List ResultVar→M (List PV)
 | []=> .pure []
 |r::rs=> .bind (Qkr P st r) fun v=> .bind (Qcu P st rs) fun vs=> .pure (v::vs)
def Qin:List PV→PV
 | [v]=>v
 |vs=> .tup vs
def Qpz (P:Program) (rs:List ResultVar) (st:St):Option PV:=match(M.bind (Qcu P st rs) Qdt) st.box with
 |some ((vs,_),_)=>some (Qin vs)
 |none=>none
def vret (P:Program) (rs:List ResultVar) (R:PV→Prop):Exit→St→Prop
 | .normal,s| .ret,s=>match Qpz P rs s with
  |some r=>R r
  |none=>False
 |_,_=>False
def Qbu:Nat→List PV→List (Nat×PV)
 |_,[]=>[]
 |i,v::vs=>(i,v)::Qbu (i+1) vs
theorem Qdk: ∀(vs:List PV) (i t:Nat) (v:PV),lkp (Qbu i vs) t=some v→i≤t∧vs[t-i]? =some v
 | [],_,_,_,h=>by cases h
 |x::vs,i,t,v,h=>by
  unfold Qbu lkp at h
  split at h
  ·rename_i e;cases h;subst e;simp
  ·obtain⟨h1,h2⟩:=Qdk vs (i+1) t v h
   refine⟨by omega,?_⟩
   have:t-i=(t-(i+1))+1:=by omega
   rw [this,List.getElem?_cons_succ];exact h2
def Ql7 (tmps:Array Value):ResultVar→Sem Value
 | .tmp t=>pure (tmps.getD t undef)
 | .cell a t=>do loadVar t (←asAddr (tmps.getD a undef))
theorem Qp0 (fn:Func) (tmps:Array Value):results fn tmps=(do let vs←fn.results.mapM (Ql7 tmps);pure (if h:vs.size=1 then vs[0]else .tuple vs)):=by
 unfold results
 congr 1
section
variable {C:Ctx} {st:St} {a:Act} {w:World}
theorem Qm9 {ρ:Rho} {im:Im} (h:Rel' C st a w ρ im) {r:ResultVar} {v:PV} {l:Acc} (he:Qkr C.P st r st.box=some (v,l)):
  ∃u,(Ql7 a.tmps r).run C.P w= .ok u w∧LR w im ρ v u:=by
 cases r with
 |tmp t=>
  obtain⟨e,_⟩:=M.ofOpt_some (bx:=st.box) he
  exact⟨_,rfl,h.var t v e⟩
 |cell p T=>
  simp only [Qkr]at he
  cases hp:st.var p with
  |none=>rw [hp]at he;cases he
  |some x=>
   rw [hp]at he
   have hx:=h.var p x hp
   show∃u,(asAddr (a.tmps.getD p undef) >>= fun q=>loadVar T q).run C.P w= .ok u w∧LR w im ρ v u
   generalize hval:a.tmps.getD p undef=val at hx ⊢
   cases x with
   |bp b esz i off=>
    obtain⟨S,_,_,e1,e2,_⟩:=M.bind_some he
    obtain⟨B,hB,rfl,_⟩:=M.soft_some e1
    obtain⟨_,_,_,e3,e4,_⟩:=M.bind_some e2
    obtain⟨c1,_⟩:=M.ok_some e3
    obtain⟨e,_,_,e5,e6,_⟩:=M.bind_some e4
    obtain⟨c2,_⟩:=M.ofOpt_some e5
    obtain⟨c3,_⟩:=M.ofOpt_some e6
    simp only [Box.soft,beq_iff_eq]at c1 c2
    obtain⟨g,hg,ex⟩:=hx.bp_inv
    obtain⟨hez,us,hr,_,hc⟩:=h.seen hg hB c2
    have hul:=hr.length
    obtain⟨u,h1,h2⟩:=Qhf (P:=C.P) (g:=g) (p:=i*B.esz) hr (fun j hj=>hc j (by omega)) c3
    rw [c1]at h1
    exact⟨u,by simp [ex,asAddr,h1],h2⟩
   |rp cs=>
    obtain⟨c3,_⟩:=M.ofOpt_some he
    have hr:=hx.rp_inv
    cases hr with
    |rp _ g off vs hi hc hr=>
     obtain⟨u,h1,h2⟩:=Qhf (P:=C.P) (w:=w) (g:=g) (p:=off) (off:=0) (ρ:=ρ) hr.toLRL (fun j hj=>hc j hj) c3
     rw [Nat.add_zero]at h1
     exact⟨u,by simp [asAddr,h1],h2⟩
   |_=>cases he
theorem Qd7 {ρ:Rho} {im:Im} (h:Rel' C st a w ρ im): ∀{rs:List ResultVar} {vs:List PV} {l:Acc},Qcu C.P st rs st.box=some (vs,l)→
  ∃us,(rs.mapM (Ql7 a.tmps)).run C.P w= .ok us w∧LRL w im ρ vs us
 | [],vs,l,he=>by obtain⟨e,_⟩:=M.pure_some he;subst e;exact⟨[],by simp,.nil⟩
 |r::rs,vs,l,he=>by
  obtain⟨v,_,_,e1,e2,_⟩:=M.bind_some he
  obtain⟨vs',_,_,e3,e4,_⟩:=M.bind_some e2
  obtain⟨e5,_⟩:=M.pure_some e4
  subst e5
  obtain⟨u,h1,h2⟩:=Qm9 h e1
  obtain⟨us,h3,h4⟩:=Qd7 h e3
  refine⟨u::us,?_,.cons _ _ _ _ h2 h4⟩
  rw [List.mapM_cons]
  simp [h1,h3]
end
theorem Qio {C:Ctx} {st:St} {fn:Func} {R:Ending→World→Prop} {rd:Option Nat} (hJ: ∀own im o w,C.J own im o w) {ρ:Rho} {im:Im} {tmps:Array Value}
  (fin: ∀w2,Rel' C st {tmps:=tmps,defers:=[]} w2 ρ im→ ∃v,(results fn tmps).run C.P w2= .ok v w2∧R (.returned v) w2): ∀(Ds:List Nat) (w:World),
  Rel' C st {tmps:=tmps,defers:=Ds.map fun D=>{target:= .collected D,args:= #[]}} w ρ im→Ds.Nodup→(∀D∈Ds,C.base≤D∧w.heap[D]? =some (.deferred (some [])))→
  LeavesInM (FW rd) 0 C.P fn tmps R (Ds.map fun D=>{target:= .collected D,args:= #[]}) .returning w
 | [],w,h,_,_=>by
  obtain⟨v,h1,h2⟩:=fin w h
  exact⟨v,h1,h2⟩
 |D::Ds,w,h,hn,hD=>by
  refine⟨by simp,.inl ⟨_,_,rfl,run_takeDeferred (hD D (by simp)).2,Qio hJ fin Ds _ (h.unmark hJ hn hD) (List.nodup_cons.1 hn).2 ?_⟩⟩
  intro E hE
  refine⟨(hD E (by simp [hE])).1,?_⟩
  rw [Qbd _ _ _ _ (by rintro rfl;exact(List.nodup_cons.1 hn).1 hE)]
  exact(hD E (by simp [hE])).2
def Qdn (P:Program) (nt:Nat) (w:World) (im:Im) (ρ:Rho) (F:Nat) (hF:F≤w.heap.size) (hlay:Laid P F w) (hXF: ∀g,Own ρ g→F≤g):Ctx where
 P:=P
 w0:=w
 F:=F
 hF:=hF
 lay:=hlay
 hXF:=hXF
 im0:=im
 nt:=nt
 ρ0:=ρ
 X:=Own ρ
 hX:=fun _ h=>h
 J:=fun _ _ _ _=>True
 hJ:=fun _ _ _=>trivial
 yl:=none
 hY:=fun h=>by cases h
theorem Qp1 {P:Program} {nt:Nat} {w:World} {im:Im} {ρ:Rho} {F:Nat} (hF:F≤w.heap.size) (hlay:Laid P F w) (hXF: ∀g,Own ρ g→F≤g) {args:List PV} {us:List Value} {bxs:List (Nat×Box)} (hn:args.length≤nt) (hi: ∀g j,im g j→ ∃u,w.cell? ⟨g,j,none⟩=some u)
  (hb:Boxes (Own ρ) w im ρ (lkp bxs)) (hr:LRL w im ρ args us):Rel (Qdn P nt w im ρ F hF hlay hXF) (St.of (Qbu 0 args) bxs) {tmps:=us.toArray++Array.replicate (nt-us.toArray.size) undef,defers:=[]} w:=by
 have hlen:=hr.length
 refine⟨ρ,im,⟨.refl _ _ _,Keeps.refl _ _,fun _ _ x=>x,fun _ _ x=> .inl x,fun b x x' _ h0 hx=>by rw [show(Qdn P nt w im ρ F hF hlay hXF).ρ0 b=ρ b from rfl]at h0;rw [h0]at hx;exact(Option.some.inj hx).symm,trivial,rfl⟩,?_,⟨fun _=>rfl,[],rfl,by simp,by simp⟩,hi,?_,hb.rho,?_,hb.inj⟩
 ·simp only [Array.size_append,List.size_toArray,Array.size_replicate,Qdn];omega
 ·intro t v hv
  obtain⟨_,h2⟩:=Qdk args 0 t v hv
  simp only [Nat.sub_zero]at h2
  obtain⟨u,hu,hrep⟩:=hr.get t v h2
  have ht:t<us.length:=(List.getElem?_eq_some_iff.1 hu).1
  have:(us.toArray++Array.replicate (nt-us.toArray.size) undef)[t]? =some u:=by
   rw [Array.getElem?_append_left (by simpa using ht)];simpa using hu
  simp only [Array.getD_eq_getD_getElem?,this,Option.getD_some]
  exact hrep
 ·intro b x B hx hB
  have h:=hb.box b x B hx hB
  cases x with
  |none=>exact h
  |some g=>
   obtain⟨h1,h2⟩:=h
   exact⟨.inr h1,h2⟩
theorem Qg2 {P:Program} {f:FuncId} {fn:Func} {c:Code} {args:List PV} {bxs:List (Nat×Box)} {us:List Value} {w:World} {im:Im} {ρ:Rho} {F:Nat} (hF:F≤w.heap.size) (hlay:Laid P F w) (hXF: ∀g,Own ρ g→F≤g) {R:Ending→World→Prop} {Q:Exit→St→Prop}
  (hf:P.funcs[f]? =some fn) (hb:fn.body=some c) (hn:args.length≤fn.ntmps) (hi: ∀g j,im g j→ ∃u,w.cell? ⟨g,j,none⟩=some u)
  (hbx:Boxes (Own ρ) w im ρ (lkp bxs)) (hr:LRL w im ρ args us) (h:Vwp P fn.ntmps c Q (St.of (Qbu 0 args) bxs))
  (hQ: ∀e s,Q e s→(e= .normal∨e= .ret)∧ ∀tmps ρ' im' w',Rel' (Qdn P fn.ntmps w im ρ F hF hlay hXF) s {tmps:=tmps,defers:=[]} w' ρ' im'→ ∃v,(results fn tmps).run P w'= .ok v w'∧R (.returned v) w'):Calls P f us.toArray w R:=by
 refine(callsIn_wide (n:=0)).1 (callsIn_of_wp_marks (F:=FW none) hf hb trivial (wpIn_mono (h (Qdn P fn.ntmps w im ρ F hF hlay hXF) rfl rfl ⟨none,fun _=>rfl⟩ _ _ (Qp1 hF hlay hXF hn hi hbx hr)) ?_))
 rintro e a' w' ⟨s,hq,ρ',im',h'⟩
 obtain⟨he,fin⟩:=hQ e s hq
 obtain⟨_,Ds,hd,hn,hD⟩:=h'.dfr
 have ha:a'={tmps:=a'.tmps,defers:=Ds.map fun D=>{target:= .collected D,args:= #[]}}:=by cases a';simp_all
 have key:LeavesInM (FW none) 0 P fn a'.tmps R a'.defers .returning w':=by
  rw [hd]
  rw [ha]at h'
  exact Qio (C:=Qdn P fn.ntmps w im ρ F hF hlay hXF) (fun _ _ _ _=>trivial) (fun w2 h2=>fin a'.tmps ρ' im' w2 h2) Ds w' h' hn hD
 rcases he with rfl|rfl
 ·exact key
 ·exact key
theorem Qwr (w:World) (im:Im):Boxes (Own fun _=>none) w im (fun _=>none) (lkp []):=
 ⟨fun b=>by simp [lkp],fun b x B h=>(by cases h),fun b b' g B B' h=>(by cases h)⟩
theorem Qez {P:Program} {fn:Func} {tmps:Array Value} {w:World} {vals:List Value} (h1:(fn.results.toList.mapM (Ql7 tmps)).run P w= .ok vals w):
  (results fn tmps).run P w= .ok (if h:vals.length=1 then vals[0]else .tuple vals.toArray) w:=by
 rw [Qp0,Array.mapM_eq_mapM_toList]
 have h1':(List.mapM (Ql7 tmps) fn.results.toList).run P w= .ok vals w:=h1
 simp [h1']
theorem Qsw {w:World} {im:Im} {ys:List PV} {vals:List Value} (r:RepL w im ys vals):Rep w im (Qin ys) (if h:vals.length=1 then vals[0]else .tuple vals.toArray):=by
 have hyl:=r.length
 split
 ·rename_i h1'
  obtain⟨u,rfl⟩:=List.length_eq_one_iff.1 h1'
  cases r with|cons y _ _ _ hh t=>cases t;exact hh
 ·rename_i h1'
  have:Qin ys= .tup ys:=by
   match ys,hyl with
   | [],_=>rfl
   | [y],hyl=>simp at hyl;exact absurd hyl.symm h1'
   |_::_::_,_=>rfl
  rw [this]
  exact .tup _ _ r
theorem Qws {w:World} {im:Im} {ρ:Rho} {ys:List PV} {vals:List Value} (r:LRL w im ρ ys vals):LR w im ρ (Qin ys) (if h:vals.length=1 then vals[0]else .tuple vals.toArray):=by
 have hyl:=r.length
 split
 ·rename_i h1'
  obtain⟨u,rfl⟩:=List.length_eq_one_iff.1 h1'
  cases r with|cons y _ _ _ hh t=>cases t;exact hh
 ·rename_i h1'
  have:Qin ys= .tup ys:=by
   match ys,hyl with
   | [],_=>rfl
   | [y],hyl=>simp at hyl;exact absurd hyl.symm h1'
   |_::_::_,_=>rfl
  rw [this]
  exact .tup _ _ r
theorem Qwt {P:Program} {f:FuncId} {fn:Func} {c:Code} {args:List PV} {r:PV} (nt:Nat) (rs:List ResultVar) (hf:P.funcs[f]? =some fn) (hb:fn.body=some c) (hc:callable P f=true)
  (hnt:fn.ntmps=nt) (hrs:fn.results.toList=rs) (hn:Nat.ble args.length nt=true)
  (h:Vwp P nt c (vret P rs (· =r)) (St.of (Qbu 0 args) [])):Qan P f args r:=by
 subst hnt;subst hrs
 refine .inl ⟨hc,fun w im us F hF hlay hr hi=>have hXF: ∀g,Own (fun _=>none:Rho) g→F≤g:=(fun g hg=>by obtain⟨b,e⟩:=hg;cases e);Qg2 hF hlay hXF hf hb (Nat.le_of_ble_eq_true hn) hi (Qwr w im) hr.toLRL h ?_⟩
 intro e s hq
 have fin:(match Qpz P fn.results.toList s with|some r'=>r'=r|none=>False)→ ∀tmps ρ' im' w',Rel' (Qdn P fn.ntmps w im (fun _=>none) F hF hlay hXF) s {tmps:=tmps,defers:=[]} w' ρ' im'→
   ∃v,(results fn tmps).run P w'= .ok v w'∧(∃v',Ending.returned v= .returned v'∧Below w.heap.size w w'∧Rep w' (Qwg im w w') r v'):=by
  intro hq tmps ρ' im' w' h'
  unfold Qpz at hq
  cases hm:(M.bind (Qcu P s fn.results.toList) Qdt) s.box with
  |none=>rw [hm]at hq;exact hq.elim
  |some p=>
   obtain⟨⟨ys,es⟩,l⟩:=p
   rw [hm]at hq
   simp only at hq
   subst hq
   obtain⟨vs,_,_,e1,e2,_⟩:=M.bind_some hm
   obtain⟨vals,h1,h2⟩:=Qd7 (C:=Qdn P fn.ntmps w im (fun _=>none) F hF hlay hXF) h' e1
   obtain⟨im2,g1,r1⟩:=Qfn h' (fun _=>rfl) h2 e2
   have hnone: ∀g,¬Own (fun _=>none:Rho) g:=by rintro g ⟨b,e⟩;cases e
   have hnew: ∀g j,im2 g j→Qwg im w w' g j:=by
    intro g j x
    rcases g1.rel.root.im1 g j x with y|y|y
    ·exact .inl y
    ·exact .inr ⟨y,g1.rel.imc g j x⟩
    ·exact absurd y (hnone g)
   refine⟨_,Qez h1,_,rfl,(h'.root.below.mono (Nat.le_refl _) fun k _ x=>(hnone k x).elim:Lent (fun _=>False) w.heap.size w w').below,?_⟩
   exact Qsw (r1.mono (fun _ _ _=>rfl) hnew)
 cases e with
 |normal=>exact⟨.inl rfl,fin hq⟩
 |ret=>exact⟨.inr rfl,fin hq⟩
 |_=>exact hq.elim
def Qsx (P:Program) (rs:List ResultVar) (r:PV) (bxs':List (Nat×Box)):Exit→St→Prop
 | .normal,s| .ret,s=> ∃vs l,Qcu P s rs s.box=some (vs,l)∧Le {s with var:=lkp [(0,Qin vs)]} (St.ofG [(0,r)] bxs' s.out s.yl)
 |_,_=>False
theorem Qsy {P:Program} {f:FuncId} {fn:Func} {c:Code} {args:List PV} {bxs bxs':List (Nat×Box)} {r:PV} (nt:Nat) (rs:List ResultVar) (hf:P.funcs[f]? =some fn) (hb:fn.body=some c) (hc:callable P f=true)
  (hnt:fn.ntmps=nt) (hrs:fn.results.toList=rs) (hn:Nat.ble args.length nt=true) (hL:(bxs.all fun p=>Nat.ble LENT p.1)=true)
  (h:Vwp P nt c (Qsx P rs r bxs') (St.of (Qbu 0 args) bxs)):Qdl P f args bxs r bxs':=by
 subst hnt;subst hrs
 refine⟨hc,fun w im ρ us F hF hlay hXF hi hbx hr=>Qg2 hF hlay hXF hf hb (Nat.le_of_ble_eq_true hn) hi hbx hr h ?_⟩
 intro e s hq
 have fin:(∃vs l,Qcu P s fn.results.toList s.box=some (vs,l)∧Le {s with var:=lkp [(0,Qin vs)]} (St.ofG [(0,r)] bxs' s.out s.yl))→ ∀tmps ρ' im' w',Rel' (Qdn P fn.ntmps w im ρ F hF hlay hXF) s {tmps:=tmps,defers:=[]} w' ρ' im'→
   ∃v,(results fn tmps).run P w'= .ok v w'∧(∃v' ρ' im',Ending.returned v= .returned v'∧Step ρ im w ρ' im' w'∧(∀g j,im' g j→ ∃u,w'.cell? ⟨g,j,none⟩=some u)∧Boxes (Own ρ') w' im' ρ' (lkp bxs')∧
    (∀b x x',ρ b=some x→ρ' b=some x'→x'=x)∧LR w' im' ρ' r v'):=by
  rintro⟨vs,l,e1,hle⟩ tmps ρ' im' w' h'
  obtain⟨vals,h1,h2⟩:=Qd7 (C:=Qdn P fn.ntmps w im ρ F hF hlay hXF) h' e1
  refine⟨_,Qez h1,?_⟩
  have hv:=Qws h2
  generalize (if h:vals.length=1 then vals[0]else Value.tuple vals.toArray)=v at*
  have h0:Rel (Qdn P (fn.ntmps+1) w im ρ F hF hlay hXF) {s with var:=lkp [(0,Qin vs)]} {tmps:=Array.replicate (fn.ntmps+1) v,defers:=[]} w':=by
   refine⟨ρ',im',⟨h'.root.below,h'.root.keep,h'.root.im0,h'.root.im1,h'.root.rho0,trivial,h'.root.yl⟩,by simp [Qdn],⟨fun _=>rfl,[],rfl,by simp,by simp⟩,h'.imc,?_,h'.rho,h'.box,h'.inj⟩
   intro t x hx
   simp only [lkp]at hx
   split at hx
   ·rename_i e;cases hx;subst e
    simpa [Array.getD]using hv
   ·cases hx
  obtain⟨ρ2,im2,h2⟩:=hle _ _ _ h0
  refine⟨v,ρ2,im2,rfl,⟨h2.root.below,h2.root.keep,fun g x=>(h2.ownB x).1.symm,h2.root.im0,fun g j x=>(h2.root.im1 g j x).imp id fun y=>y.symm⟩,h2.imc,⟨h2.rho,?_,h2.inj⟩,?_,?_⟩
  ·intro b x B hx hB
   have hb:=h2.box b x B hx hB
   cases x with
   |none=>exact hb
   |some g=>exact⟨⟨b,hx⟩,hb.2⟩
  ·intro b x x' hx hx'
   refine h2.root.rho0 b x x' ?_ hx hx'
   have hne:lkp bxs b≠none:=fun e=>by rw [(hbx.rho b).2 e]at hx;cases hx
   obtain⟨B,hB⟩:=Option.ne_none_iff_exists'.1 hne
   exact Nat.le_of_ble_eq_true (List.all_eq_true.1 hL _ (Qbn hB))
  ·have:=h2.var 0 r (by simp [St.ofG,lkp])
   simpa [Array.getD]using this
 cases e with
 |normal=>exact⟨.inl rfl,fin hq⟩
 |ret=>exact⟨.inr rfl,fin hq⟩
 |_=>exact hq.elim
end Go.Vl

namespace Go.Vl
open Go.RowKit
section
variable (P:Program) (tb:Tab) (id:Nat) (bx:Bx)
theorem Q2x (x:Operand) (v:PV):Qao P tb id (.move x) [v] bx=some (.done v [],[]):=rfl
theorem Qwu (x:Operand) (v:PV):Qao P tb id (.assign x) [v] bx=some (.done v [],[]):=rfl
theorem Qks (x:Operand) (b e i o:Nat):Qao P tb id (.nilCheck x) [.bp b e i o] bx=some (.done (.bp b e i o) [],[]):=rfl
theorem Qkt (x:Operand) (cs:List PV):Qao P tb id (.nilCheck x) [.rp cs] bx=some (.done (.rp cs) [],[]):=rfl
theorem Qku (x:Operand) (f:FuncId) (a c:List PV):Qao P tb id (.nilCheck x) [.fn f a c] bx=some (.done (.fn f a c) [],[]):=rfl
theorem Qsz (T:TypeId):Qao P tb id (.makeMap T none) [] bx=Qgl P id T bx:=rfl
theorem Qwv (T:TypeId) (x y:Operand) (ok:Bool) (b:Nat) (k:PV):Qao P tb id (.lookup T x y ok) [.mp b,k] bx=Qgm P T b k ok bx:=rfl
theorem Qna (T:TypeId) (x y z:Operand) (b:Nat) (k v:PV):Qao P tb id (.mapUpdate T x y z) [.mp b,k,v] bx=Qei P T b k v bx:=rfl
theorem Qww (T:TypeId) (x y z:Operand) (b:Nat) (k v:PV):Qao P tb id (.insert T x y z) [.mp b,k,v] bx=Qei P T b k v bx:=rfl
theorem Qp2 (T:TypeId) (x y:Operand) (b:Nat) (k:PV):Qao P tb id (.mapEntry T x y) [.mp b,k] bx=Qgn P T b k bx:=rfl
theorem Ql8 (T:TypeId) (x y z:Operand) (b:Nat) (q:IntKind) (n:Int) (v:PV):Qao P tb id (.entryStore T x y z) [.mp b,.int q n,v] bx=Qgo b n v bx:=rfl
theorem Q0x (z:PV):Qes false z none=z:=rfl
theorem Q0y (z v:PV):Qes false z (some v)=v:=rfl
theorem Qwx (z:PV):Qes true z none= .tup [z,.bool false]:=rfl
theorem Qwy (z v:PV):Qes true z (some v)= .tup [v,.bool true]:=rfl
theorem Qs0 (cs:List PV):(PV.agg cs).isAgg=true:=rfl
theorem Qs1 (s:ByteArray):(PV.str s).isAgg=false:=rfl
theorem Qs2 (k:IntKind) (n:Int):(PV.int k n).isAgg=false:=rfl
theorem Qwz (c x y:Operand) (v v':PV):Qao P tb id (.pick c x y) [.bool true,v,v'] bx=some (.done v [],[]):=rfl
theorem Qw0 (c x y:Operand) (v v':PV):Qao P tb id (.pick c x y) [.bool false,v,v'] bx=some (.done v' [],[]):=rfl
theorem Q0z (T:TypeId):Qao P tb id (.alloc T) [] bx=M.bind (.ofOpt (Qaw P T)) (fun z=>newVar id T z) bx:=rfl
theorem Q3w (T:TypeId) (x:Operand) (v:PV):Qao P tb id (.box T x) [v] bx=newVar id T v bx:=rfl
theorem Q00 (T:TypeId) (parts:Array (Nat×Operand)) (vs:List PV):Qao P tb id (.build T parts) vs bx=
  M.bind (.ok (buildable P T)) (fun _=> .bind (.ofOpt (Qja P T)) fun z=> .bind (.ofOpt (Qgj (Qaz P T) z.cells ((parts.toList.map (·.1)).zip vs))) fun cs=> .pure (.done (.agg cs) [])) bx:=rfl
theorem Ql9 (T n:Nat) (parts:Array (Nat×Operand)) (vs:List PV) (h:lkp tb id=none):Qao P tb id (.buildSlice T n parts) vs bx=
  M.bind (.ok (parts.toList.map (·.1)==List.range n&&n≤1000)) (fun _=> .bind (.ofOpt (Qa6 P T)) fun E=> .bind (.ofOpt (Qap P E)) fun q=>
   .bind (.ofOpt (Qaw P E)) fun z=> .bind (.hard id) fun b=> .bind (Qdt vs) fun ys=>
   .bind (.ok (b.isNone&&z.cells.length==q.1&&ys.1.length==n&&(ys.1.all fun e=>e.cells.length==q.1&&Qar e.cells)&&0<q.1&&q.1≤1000)) fun _=>
   .pure (.done (.bs id q.1 0 n) (ys.2++[.new id {els:=ys.1,esz:=q.1,ety:=E,fro:=0,live:=true,arr:=true}]))) bx:=by simp only [Qao,h]
theorem Qkv (T n:Nat) (parts:Array (Nat×Operand)) (vs:List PV) (p:List (Nat×Nat)×List (Nat×Nat)) (h:lkp tb id=some p):Qao P tb id (.buildSlice T n parts) vs bx=Qfi P id T n parts vs bx:=by simp only [Qao,h]
theorem Qs3 (T:TypeId) (x:Operand) (b esz i off:Nat):Qao P tb id (.load T x) [.bp b esz i off] bx=
  M.bind (.soft b) (fun B=> .bind (.ok (B.esz==esz)) fun _=> .bind (.ofOpt B.els[i]?) fun e=> .bind (.ofOpt (Qb2 P T e.cells off)) fun v=> .pure (.done v [])) bx:=rfl
theorem Qs4 (T:TypeId) (x:Operand) (cs:List PV):Qao P tb id (.load T x) [.rp cs] bx=M.bind (.ofOpt (Qb2 P T cs 0)) (fun v=> .pure (.done v [])) bx:=rfl
theorem Q01 (T:TypeId) (x y:Operand) (b esz i off:Nat) (v:PV):Qao P tb id (.store T x y) [.bp b esz i off,v] bx=
  M.bind (.hard b) (fun Bo=> .bind (.ofOpt Bo) fun B=> .bind (.ofOpt B.els[i]?) fun e=>
   .bind (.ok (B.esz==esz&&B.live&&B.fro≤i&&(P.info? T).isSome&&v.cells.length==P.cellsOf T&&Qar v.cells&&off+v.cells.length≤e.cells.length)) fun _=>
   if B.arr then .bind (escL v.cells) fun y=> .bind (.ok (Qar y.1&&y.2.all fun e=>e.id != b)) fun _=> .pure (.done (.tup []) (y.2++[.wr b i (e.putCells off y.1)]))
   else .pure (.done (.tup []) [.wr b i (e.putCells off v.cells)])) bx:=rfl
theorem Q3x (op:BinOp) (t u:TypeId) (x y:Operand) (v v':PV):Qao P tb id (.binOp op t x y u) [v,v'] bx=M.bind (.ofOpt (Qa7 op t P v v')) (fun v=> .pure (.done v [])) bx:=rfl
theorem Q3y (t:TypeId) (x:Operand) (a:Bool):Qao P tb id (.unOp .not t x) [.bool a] bx=some (.done (.bool !a) [],[]):=rfl
theorem Q3z (t:TypeId) (x:Operand) (k:IntKind) (a:Int):Qao P tb id (.unOp .neg t x) [.int k a] bx=some (.done (.int k (k.wrap (0-a))) [],[]):=rfl
theorem Q2y (s d:TypeId) (x:Operand) (v:PV):Qao P tb id (.convert s d x) [v] bx=Qj4 P s d v bx:=rfl
theorem Qp3 (f:FuncId) (first cap:Array Operand) (vs:List PV):Qao P tb id (.makeFunc (.func f) first cap) vs bx=some (.done (.fn f (vs.take first.size) (vs.drop first.size)) [],[]):=rfl
theorem Qnb (T:TypeId) (x y:Operand) (k k':IntKind) (l c:Int):Qao P tb id (.makeSlice T x y) [.int k l,.int k' c] bx=
  M.bind (.ofOpt (Qa6 P T)) (fun E=> .bind (.ofOpt (Qap P E)) fun q=> .bind (.ofOpt (Qaw P E)) fun z=> .bind (.hard id) fun b=>
   .bind (.ok (b.isNone&&z.cells.length==q.1&&Qar z.cells&&0<q.1&&decide (0≤l)&&decide (l≤c)&&decide ((q.2:Int)*c≤281474976710656)&&decide (c≤9223372036854775807))) fun _=>
   .pure (.done (.bs id q.1 0 l.toNat) [.new id {els:=List.replicate l.toNat z,esz:=q.1,ety:=E,fro:=0,live:=true,arr:=true}])) bx:=rfl
theorem Qw1 (T:TypeId) (x:Operand) (v:PV):Qao P tb id (.slice T x none none none) [v] bx=Qbo P T v none none bx:=rfl
theorem Qw2 (T:TypeId) (x l:Operand) (v vl:PV):Qao P tb id (.slice T x (some l) none none) [v,vl] bx=Qbo P T v (some vl) none bx:=rfl
theorem Qw3 (T:TypeId) (x h:Operand) (v vh:PV):Qao P tb id (.slice T x none (some h) none) [v,vh] bx=Qbo P T v none (some vh) bx:=rfl
theorem Qw4 (T:TypeId) (x l h:Operand) (v vl vh:PV):Qao P tb id (.slice T x (some l) (some h) none) [v,vl,vh] bx=Qbo P T v (some vl) (some vh) bx:=rfl
theorem Qi3 (T:TypeId) (x:Operand) (f b e i o:Nat):Qao P tb id (.fieldAddr T x f) [.bp b e i o] bx=M.bind (.ofOpt (Qav P T f)) (fun q=> .pure (.done (.bp b e i (o+q.1)) [])) bx:=rfl
theorem Qi4 (T:TypeId) (x:Operand) (f:Nat) (cs:List PV):Qao P tb id (.fieldAddr T x f) [.rp cs] bx=M.bind (.ofOpt (Qav P T f)) (fun q=> .pure (.done (.rp (cs.drop q.1)) [])) bx:=rfl
theorem Q02 (T:TypeId) (x:Operand) (f:Nat) (cs:List PV):Qao P tb id (.field T x f) [.agg cs] bx=M.bind (.ofOpt (Qav P T f)) (fun q=> .bind (.ofOpt (Qb2 P q.2.1 cs q.1)) fun v=> .pure (.done v [])) bx:=rfl
theorem Qi5 (T:TypeId) (x y:Operand) (b e k o:Nat) (ik:IntKind) (i:Int):Qao P tb id (.indexAddr T x y) [.bp b e k o,.int ik i] bx=
  M.bind (.ofOpt (Qhw P T)) (fun q=> .bind (.ofOpt (Qap P q.2)) fun s=> .bind (.ok (decide (0≤i)&&decide (i<q.1)&&decide (1<q.1))) fun _=> .pure (.done (.bp b e k (o+i.toNat*s.1)) [])) bx:=rfl
theorem Qi6 (T:TypeId) (x y:Operand) (cs:List PV) (ik:IntKind) (i:Int):Qao P tb id (.indexAddr T x y) [.rp cs,.int ik i] bx=
  M.bind (.ofOpt (Qhw P T)) (fun q=> .bind (.ofOpt (Qap P q.2)) fun s=> .bind (.ok (decide (0≤i)&&decide (i<q.1)&&decide (1<q.1))) fun _=> .pure (.done (.rp (cs.drop (i.toNat*s.1))) [])) bx:=rfl
theorem Qi7 (T:TypeId) (x y:Operand) (b e o n:Nat) (ik:IntKind) (i:Int):Qao P tb id (.indexAddr T x y) [.bs b e o n,.int ik i] bx=
  M.bind (.ofOpt (Qa6 P T)) (fun E=> .bind (.ofOpt (Qap P E)) fun s=> .bind (.ok (s.1==e&&decide (0≤i)&&decide (i<n))) fun _=> .pure (.done (.bp b e (o+i.toNat) 0) [])) bx:=rfl
theorem Qip (T:TypeId) (x y:Operand) (es:List PV) (ik:IntKind) (i:Int):Qao P tb id (.indexAddr T x y) [.slc es,.int ik i] bx=
  M.bind (.ofOpt (Qa6 P T)) (fun E=> .bind (.ofOpt (Qap P E)) fun s=> .bind (.ok (decide (0≤i))) fun _=> .bind (.ofOpt es[i.toNat]?) fun e=> .bind (.ok (e.cells.length==s.1)) fun _=> .pure (.done (.rp e.cells) [])) bx:=rfl
theorem Qnc (T:TypeId) (x y:Operand) (cs:List PV) (ik:IntKind) (i:Int):Qao P tb id (.index T x y) [.agg cs,.int ik i] bx=
  M.bind (.ofOpt (Qhw P T)) (fun q=> .bind (.ofOpt (Qap P q.2)) fun s=> .bind (.ok (decide (0≤i)&&decide (i<q.1))) fun _=> .bind (.ofOpt (Qb2 P q.2 cs (i.toNat*s.1))) fun v=> .pure (.done v [])) bx:=rfl
theorem Qnd (T:TypeId) (x y:Operand) (s:ByteArray) (ik:IntKind) (i:Int):Qao P tb id (.index T x y) [.str s,.int ik i] bx=
  M.bind (.ok (match P.underlying T with|some .string=>decide (0≤i)|_=>false)) (fun _=> .bind (.ofOpt s[i.toNat]?) fun c=> .pure (.done (.int .u8 c.toNat) [])) bx:=rfl
theorem Qs5 (x:Operand) (i:Nat) (vs:List PV):Qao P tb id (.extract x i) [.tup vs] bx=M.bind (.ofOpt vs[i]?) (fun v=> .pure (.done v [])) bx:=rfl
theorem Q30 (asx:Array Operand) (ts:Array TypeId) (x:PV):Qao P tb id (.call ⟨.builtin .len,asx,ts⟩) [x] bx=M.bind (.ofOpt ts[0]?) (fun t=> .bind (.ofOpt (Qa0 P t x)) fun v=> .pure (.done v [])) bx:=rfl
theorem Qw5 (asx:Array Operand) (ts:Array TypeId) (s x:PV) (h:lkp tb id=none):Qao P tb id (.call ⟨.builtin .append,asx,ts⟩) [s,x] bx=
  M.bind (.ofOpt ts[0]?) (fun t=> .bind (.ofOpt ts[1]?) fun t2=> .bind (.ok (ts.size==2)) fun _=>Qb7 P id t t2 s x) bx:=by simp only [Qao,h]
theorem Qs6 (asx:Array Operand) (ts:Array TypeId) (s x:PV) (p:List (Nat×Nat)×List (Nat×Nat)) (h:lkp tb id=some p):Qao P tb id (.call ⟨.builtin .append,asx,ts⟩) [s,x] bx=
  M.bind (.ofOpt ts[0]?) (fun t=> .bind (.ofOpt ts[1]?) fun t2=> .bind (.ok (ts.size==2)) fun _=>appendD P id t t2 s x) bx:=by simp only [Qao,h]
theorem Q31 (asx:Array Operand) (ts:Array TypeId) (x:PV) (xs:List PV):Qao P tb id (.call ⟨.builtin .max,asx,ts⟩) (x::xs) bx=M.bind (.ofOpt (Qeh true x xs)) (fun v=> .pure (.done v [])) bx:=rfl
theorem Q32 (asx:Array Operand) (ts:Array TypeId) (x:PV) (xs:List PV):Qao P tb id (.call ⟨.builtin .min,asx,ts⟩) (x::xs) bx=M.bind (.ofOpt (Qeh false x xs)) (fun v=> .pure (.done v [])) bx:=rfl
theorem Qxl (fo:Operand) (asx:Array Operand) (ts:Array TypeId) (f:FuncId) (first cap args:List PV) (h:lkp tb id=none):Qao P tb id (.call ⟨.value fo,asx,ts⟩) (.fn f first cap::args) bx=
  M.bind (Qdo first) (fun x=> .bind (Qdt args) fun y=> .bind (Qdo cap) fun z=> .pure (.call f (x.1++y.1++z.1) (x.2++y.2++z.2))) bx:=by simp only [Qao,h]
theorem Qxm (fo:Operand) (asx:Array Operand) (ts:Array TypeId) (f:FuncId) (first cap args:List PV) (θ ν:List (Nat×Nat)) (h:lkp tb id=some (θ,ν)):Qao P tb id (.call ⟨.value fo,asx,ts⟩) (.fn f first cap::args) bx=
  Qc9 θ ν f (first++args++cap) bx:=by simp only [Qao,h]
theorem Q2z (asx:Array Operand) (ts:Array TypeId) (d x:PV):Qao P tb id (.call ⟨.builtin .copy,asx,ts⟩) [d,x] bx=M.bind (.ofOpt ts[0]?) (fun t=>Qfj P t d x) bx:=rfl
theorem Q03 (asx:Array Operand) (ts:Array TypeId) (d:PV):Qao P tb id (.call ⟨.builtin .clear,asx,ts⟩) [d] bx=M.bind (.ofOpt ts[0]?) (fun t=>Qda P t d) bx:=rfl
theorem Q33 (fo:Operand) (asx:Array Operand) (ts:Array TypeId) (n stop:Nat) (args:List PV):Qao P tb id (.call ⟨.value fo,asx,ts⟩) (.yld n stop::args) bx=
  M.bind (.hard YID) (fun _=> .bind (Qdt args) fun y=> .pure (.yield n stop y.1 y.2)) bx:=rfl
end
section
variable (P:Program) (t:TypeId) (k k':IntKind) (a b:Int)
theorem Q34:Qa7 .add t P (.int k a) (.int k b)=some (.int k (k.wrap (a+b))):=by simp [Qa7,Qcf]
theorem Q35:Qa7 .sub t P (.int k a) (.int k b)=some (.int k (k.wrap (a-b))):=by simp [Qa7,Qcf]
theorem Q36:Qa7 .mul t P (.int k a) (.int k b)=some (.int k (k.wrap (a*b))):=by simp [Qa7,Qcf]
theorem Q37 (hb:b≠0):Qa7 .quo t P (.int k a) (.int k b)=some (.int k (k.wrap (a.tdiv b))):=by simp [Qa7,Qcf,hb]
theorem Q38 (hb:b≠0):Qa7 .rem t P (.int k a) (.int k b)=some (.int k (a.tmod b)):=by simp [Qa7,Qcf,hb]
theorem Q39:Qa7 .and t P (.int k a) (.int k b)=some (.int k (k.wrap (BitVec.ofInt k.bits a &&& BitVec.ofInt k.bits b).toNat)):=by simp [Qa7,Qcf]
theorem b_or:Qa7 .or t P (.int k a) (.int k b)=some (.int k (k.wrap (BitVec.ofInt k.bits a ||| BitVec.ofInt k.bits b).toNat)):=by simp [Qa7,Qcf]
theorem Q4a:Qa7 .eql t P (.int k a) (.int k b)=some (.bool (a==b)):=by simp [Qa7,Qcf,Qgk]
theorem Q4b:Qa7 .neq t P (.int k a) (.int k b)=some (.bool (a != b)):=by simp [Qa7,Qcf,Qgk]
theorem Q4c:Qa7 .lss t P (.int k a) (.int k b)=some (.bool (decide (a<b))):=by simp [Qa7,Qcf,Qgk]
theorem Q4d:Qa7 .leq t P (.int k a) (.int k b)=some (.bool (decide (a≤b))):=by simp [Qa7,Qcf,Qgk]
theorem Q4e:Qa7 .gtr t P (.int k a) (.int k b)=some (.bool (decide (b<a))):=by simp [Qa7,Qcf,Qgk]
theorem Q4f:Qa7 .geq t P (.int k a) (.int k b)=some (.bool (decide (b≤a))):=by simp [Qa7,Qcf,Qgk]
theorem Q4g:Qa7 .shl t P (.int k a) (.int k' b)=Qeb .shl k a b:=rfl
theorem Q4h:Qa7 .shr t P (.int k a) (.int k' b)=Qeb .shr k a b:=rfl
theorem Q04 (op:BinOp) (x y:ByteArray):Qa7 op t P (.str x) (.str y)=Qnu op x y:=rfl
theorem Qw6 (op:BinOp):Qa7 op t P .nilS .nilS=Qfh op t P true:=rfl
theorem Qw7 (op:BinOp) (es:List PV):Qa7 op t P (.slc es) .nilS=match es.isEmpty with
  |true=>none
  |false=>Qfh op t P false:=rfl
theorem Q05 (op:BinOp) (b esz off len:Nat):Qa7 op t P (.bs b esz off len) .nilS=match Nat.beq len 0 with
  |true=>none
  |false=>Qfh op t P false:=rfl
theorem Q06 (op:BinOp) (f:FuncId) (x y:List PV):Qa7 op t P (.fn f x y) .nilF=Qv9 op (tyFn P t):=rfl
theorem Q4i (x y:Bool) (h:P.underlying t=some .bool):Qa7 .eql t P (.bool x) (.bool y)=some (.bool (x==y)):=by simp [Qa7,h]
theorem Q4j (x y:Bool) (h:P.underlying t=some .bool):Qa7 .neq t P (.bool x) (.bool y)=some (.bool (!(x==y))):=by simp [Qa7,h]
end
def Qef:List Nat→List (Nat×PV)→List (Nat×PV)
 | [],_=>[]
 |t::ks,vs=>match lkp vs t with
  |some v=>(t,v)::Qef ks vs
  |none=>Qef ks vs
def St.keep (ks:List Nat) (st:St):St:=⟨fun t=>if ks.contains t then st.var t else none,st.box,st.out,st.yl⟩
theorem Qch (vs:List (Nat×PV)): ∀(ks:List Nat) (t:Nat),lkp (Qef ks vs) t=if ks.contains t then lkp vs t else none
 | [],t=>rfl
 |k::ks,t=>by
  unfold Qef
  by_cases e:t=k
  ·subst e
   cases h:lkp vs t with
   |none=>
    rw [Qch vs ks t,h];simp
   |some v=>simp [lkp]
  ·have hne: ¬k=t:=fun x=>e x.symm
   cases h:lkp vs k with
   |none=>simp only [Qch vs ks t];simp [e]
   |some v=>simp only [lkp,e,if_false,Qch vs ks t];simp [e]
theorem Q07 (ks:List Nat) (vs:List (Nat×PV)) (bs:List (Nat×Box)) (o:List (List PV)) (y:Yl):(St.ofG vs bs o y).keep ks=St.ofG (Qef ks vs) bs o y:=by
 refine St.ext' ?_ rfl rfl rfl
 funext t
 simp only [St.keep,St.ofG,Qch]
theorem Q08 (ks:List Nat) (st:St):Le st (st.keep ks):=by
 rintro C a w ⟨ρ,im,h⟩
 refine⟨ρ,im,h.root,h.nt,h.dfr,h.imc,?_,h.rho,h.box,h.inj⟩
 intro t v hv
 simp only [St.keep]at hv
 split at hv
 ·exact h.var t v hv
 ·cases hv
def Qs7:Bool→Array Oper→List Acc→Prop
 |false,_,_=>True
 |true,ops,accs=>Qjr ops accs.reverse=true
def Qs8 (x:Option PV) (yes no:Unit→Prop):Prop:=match x with
 |some (.bool true)=>yes ()
 |some (.bool false)=>no ()
 |_=>False
def vx (P:Program) (tb:Tab) (nt:Nat) (ks:List Nat):Code→(Exit→St→Prop)→St→Prop
 | .skip,Q,st=>Q .normal st
 | .label _,Q,st=>Q .normal st
 | .exit id,Q,st=>Q (.exit id) st
 | .ret,Q,st=>Q .ret st
 | .seq a b,Q,st=>vx P tb nt ks a (vthen (vx P tb nt ks b Q) Q) st
 | .region id ops draw,Q,st=>100*id+ops.toList.length≤LENT∧vops P tb ops nt (100*id) 0 ops.toList st [] fun st' accs=>Qs7 draw ops accs∧Q .normal (st'.keep ks)
 | .cond c a b,Q,st=>Qs8 (st.ev c) (fun _=>vx P tb nt ks a Q st) (fun _=>vx P tb nt ks b Q st)
 | .block id c,Q,st=>vx P tb nt ks c (vblock id Q) st
 | .loop c,Q,st=>Vwp P nt (.loop c) Q st
 | .rangeFunc f ps a c,Q,st=>Vwp P nt (.rangeFunc f ps a c) Q st
 | .scope c,Q,st=>Vwp P nt (.scope c) Q st
 | .goto l,Q,st=>Vwp P nt (.goto l) Q st
 | .refuse s,Q,st=>Vwp P nt (.refuse s) Q st
theorem Qbv {P:Program} {tb:Tab} {nt:Nat} {ks:List Nat} (hm:P.follows .mixedOrders=true): ∀(c:Code) (Q:Exit→St→Prop) (st:St),vx P tb nt ks c Q st→Vwp P nt c Q st
 | .skip,Q,st,h=>Qwo h
 | .label _,Q,st,h=>Qst h
 | .exit id,Q,st,h=>Qwp h
 | .ret,Q,st,h=>Q0v h
 | .seq a b,Q,st,h=>Q0w (Qfw (Qbv hm a _ st h) fun e s q=>by
   cases e with
   |normal=>exact Qbv hm b Q s q
   |_=>exact q)
 | .region id ops draw,Q,st,⟨hL,h⟩=>fun C h1 h2 rd a w hr=>by
   have:=Qpy (tb:=tb) (id:=id) (draw:=draw) (ops:=ops) (Q:=fun e s=>Q e (s.keep ks)) (100*id) hm (by simpa using hL) (Qc4 (fun s l ⟨k1,k2⟩=>⟨fun hd=>by subst hd;exact k1,k2⟩) _ _ _ _ h) C h1 h2 rd a w hr
   exact wpIn_mono this fun e a' w' ⟨s,q,r⟩=>⟨_,q,Q08 ks s C a' w' r⟩
 | .cond c a b,Q,st,h=>by
   simp only [vx]at h
   unfold Qs8 at h
   split at h
   ·rename_i ht
    exact Qod ht (by simpa using Qbv hm a Q st h)
   ·rename_i ht
    exact Qod ht (by simpa using Qbv hm b Q st h)
   ·exact h.elim
 | .block id c,Q,st,h=>Qsu (Qbv hm c _ st h)
 | .loop _,_,_,h=>h
 | .rangeFunc _ _ _ _,_,_,h=>h
 | .scope _,_,_,h=>h
 | .goto _,_,_,h=>h
 | .refuse _,_,_,h=>h
inductive It where
 |code (c:Code)
 |blk (id:Nat)
 |again (J:St→Prop)
mutual
def go (P:Program) (tb:Tab) (nt:Nat) (ks:List Nat):List It→(Exit→St→Prop)→St→Prop
 | [],Q,st=>Q .normal st
 | .blk _::k,Q,st=>go P tb nt ks k Q st
 | .again J::_,_,st=>J st
 | .code c::k,Q,st=>vx P tb nt ks c (fun e s=>gleave P tb nt ks k Q e s) st
def gleave (P:Program) (tb:Tab) (nt:Nat) (ks:List Nat):List It→(Exit→St→Prop)→Exit→St→Prop
 | [],Q,e,st=>Q e st
 | .blk j::k,Q,e,st=>match e with
  | .exit i=>if i=j then go P tb nt ks k Q st else gleave P tb nt ks k Q (.exit i) st
  | .normal=>go P tb nt ks k Q st
  |e=>gleave P tb nt ks k Q e st
 | .again J::k,Q,e,st=>match e with
  | .normal=>J st
  |e=>gleave P tb nt ks k Q e st
 | .code c::k,Q,e,st=>match e with
  | .normal=>vx P tb nt ks c (fun e s=>gleave P tb nt ks k Q e s) st
  |e=>gleave P tb nt ks k Q e st
end
section
variable {P:Program} {tb:Tab} {nt:Nat} {ks:List Nat} (k:List It) (Q:Exit→St→Prop) (st:St)
theorem Qbw: ∀(k:List It) (Q:Exit→St→Prop) (st:St),gleave P tb nt ks k Q .normal st=go P tb nt ks k Q st
 | [],Q,st=>by simp only [gleave,go]
 | .blk _::k,Q,st=>by simp only [gleave,go]
 | .again _::k,Q,st=>by simp only [gleave,go]
 | .code _::k,Q,st=>by simp only [gleave,go]
theorem Q4k:go P tb nt ks [] Q st=Q .normal st:=by simp only [go]
theorem Q4l (id:Nat):go P tb nt ks (.blk id::k) Q st=go P tb nt ks k Q st:=by simp only [go]
theorem Q09 (J:St→Prop):go P tb nt ks (.again J::k) Q st=J st:=by simp only [go]
theorem Q20:go P tb nt ks (.code .skip::k) Q st=go P tb nt ks k Q st:=by simp only [go,vx,Qbw]
theorem Q1a (l:Nat):go P tb nt ks (.code (.label l)::k) Q st=go P tb nt ks k Q st:=by simp only [go,vx,Qbw]
theorem Q4m (a b:Code):go P tb nt ks (.code (.seq a b)::k) Q st=go P tb nt ks (.code a:: .code b::k) Q st:=by
 simp only [go,vx]
 congr 1
 funext e s
 cases e<;>simp only [vthen,gleave]
theorem Q1b (id:Nat) (c:Code):go P tb nt ks (.code (.block id c)::k) Q st=go P tb nt ks (.code c:: .blk id::k) Q st:=by
 simp only [go,vx]
 congr 1
 funext e s
 cases e<;>simp only [vblock,gleave,Qbw]
def gexit (P:Program) (tb:Tab) (nt:Nat) (ks:List Nat) (i:Nat) (k:List It) (Q:Exit→St→Prop) (st:St):Prop:=gleave P tb nt ks k Q (.exit i) st
theorem Q21 (i:Nat):go P tb nt ks (.code (.exit i)::k) Q st=gexit P tb nt ks i k Q st:=by simp only [go,vx,gexit]
theorem Qs9 (i j:Nat):gexit P tb nt ks i (.blk j::k) Q st=if i=j then go P tb nt ks k Q st else gexit P tb nt ks i k Q st:=by simp only [gexit,gleave]
theorem Qp4 (i:Nat) (c:Code):gexit P tb nt ks i (.code c::k) Q st=gexit P tb nt ks i k Q st:=by simp only [gexit,gleave]
theorem Qne (i:Nat) (J:St→Prop):gexit P tb nt ks i (.again J::k) Q st=gexit P tb nt ks i k Q st:=by simp only [gexit,gleave]
theorem Qta (i:Nat):gexit P tb nt ks i [] Q st=Q (.exit i) st:=by simp only [gexit,gleave]
theorem Qc5: ∀(k:List It) (Q:Exit→St→Prop) (st:St),gleave P tb nt ks k Q .ret st=Q .ret st
 | [],Q,st=>by simp only [gleave]
 | .blk _::k,Q,st=>by simp only [gleave,Qc5 k]
 | .again _::k,Q,st=>by simp only [gleave,Qc5 k]
 | .code _::k,Q,st=>by simp only [gleave,Qc5 k]
theorem Q4n:go P tb nt ks (.code .ret::k) Q st=Q .ret st:=by simp only [go,vx,Qc5]
def gcond (P:Program) (tb:Tab) (nt:Nat) (ks:List Nat) (x:Option PV) (a b:Code) (k:List It) (Q:Exit→St→Prop) (st:St):Prop:=
 Qs8 x (fun _=>go P tb nt ks (.code a::k) Q st) (fun _=>go P tb nt ks (.code b::k) Q st)
theorem Q22 (c:Operand) (a b:Code):go P tb nt ks (.code (.cond c a b)::k) Q st=gcond P tb nt ks (st.ev c) a b k Q st:=by simp only [go,vx,gcond]
theorem Qp5 (a b:Code):gcond P tb nt ks (some (.bool true)) a b k Q st=go P tb nt ks (.code a::k) Q st:=rfl
theorem Qnf (a b:Code):gcond P tb nt ks (some (.bool false)) a b k Q st=go P tb nt ks (.code b::k) Q st:=rfl
def gops (P:Program) (tb:Tab) (nt:Nat) (ks:List Nat) (ops:Array Oper) (base i:Nat) (rest:List Oper) (accs:List Acc) (draw:Bool) (k:List It) (Q:Exit→St→Prop) (st:St):Prop:=
 vops P tb ops nt base i rest st accs fun st' accs=>Qs7 draw ops accs∧go P tb nt ks k Q (st'.keep ks)
def gwanted (P:Program) (tb:Tab) (nt:Nat) (ks:List Nat) (x:Option Bool) (ops:Array Oper) (base i:Nat) (o:Oper) (rest:List Oper) (accs:List Acc) (draw:Bool) (k:List It) (Q:Exit→St→Prop) (st:St):Prop:=
 Qhh x (fun _=>gops P tb nt ks ops base (i+1) rest ([]::accs) draw k Q (st.put o.dst (.tup [])))
  (fun _=>Ql6 (st.evs o.op.operands.toList) fun vs=>Qwq P st.out st.yl (Qao P tb (base+i) o.op vs st.box) fun v es l=>gops P tb nt ks ops base (i+1) rest (l::accs) draw k Q ((Qaf es st).put o.dst v))
def gvals (P:Program) (tb:Tab) (nt:Nat) (ks:List Nat) (x:Option (List PV)) (ops:Array Oper) (base i:Nat) (o:Oper) (rest:List Oper) (accs:List Acc) (draw:Bool) (k:List It) (Q:Exit→St→Prop) (st:St):Prop:=
 Ql6 x fun vs=>Qwq P st.out st.yl (Qao P tb (base+i) o.op vs st.box) fun v es l=>gops P tb nt ks ops base (i+1) rest (l::accs) draw k Q ((Qaf es st).put o.dst v)
def gout (P:Program) (tb:Tab) (nt:Nat) (ks:List Nat) (x:Option (Out×Acc)) (ops:Array Oper) (base i:Nat) (dst:Option Tmp) (rest:List Oper) (accs:List Acc) (draw:Bool) (k:List It) (Q:Exit→St→Prop) (st:St):Prop:=
 Qwq P st.out st.yl x fun v es l=>gops P tb nt ks ops base (i+1) rest (l::accs) draw k Q ((Qaf es st).put dst v)
def gcall (P:Program) (tb:Tab) (nt:Nat) (ks:List Nat) (f:FuncId) (args:List PV) (es:List Eff) (l:Acc) (ops:Array Oper) (base i:Nat) (dst:Option Tmp) (rest:List Oper) (accs:List Acc) (draw:Bool) (k:List It) (Q:Exit→St→Prop)
  (st:St):Prop:=vcall P f args fun r=>gops P tb nt ks ops base (i+1) rest (l::accs) draw k Q ((Qaf (if Qfr r then []else es) st).put dst r)
theorem Qw8 (id:Nat) (l:List Oper) (draw:Bool):go P tb nt ks (.code (.region id l.toArray draw)::k) Q st=(100*id+l.length≤LENT∧gops P tb nt ks l.toArray (100*id) 0 l [] draw k Q st):=by
 simp only [go,vx,gops,Qbw]
variable (ops:Array Oper) (base i:Nat) (o:Oper) (rest:List Oper) (accs:List Acc) (draw:Bool)
theorem Qw9:gops P tb nt ks ops base i [] accs draw k Q st=(Qs7 draw ops accs∧go P tb nt ks k Q (st.keep ks)):=by simp only [gops,vops]
theorem Qtb:gops P tb nt ks ops base i (o::rest) accs draw k Q st=(Qpx nt o=true∧gwanted P tb nt ks (Qbm ops o st) ops base i o rest accs draw k Q st):=by simp only [gops,vops,gwanted]
theorem Qkw:gwanted P tb nt ks (some false) ops base i o rest accs draw k Q st=gops P tb nt ks ops base (i+1) rest ([]::accs) draw k Q (st.put o.dst (.tup [])):=rfl
theorem Qma:gwanted P tb nt ks (some true) ops base i o rest accs draw k Q st=gvals P tb nt ks (st.evs o.op.operands.toList) ops base i o rest accs draw k Q st:=rfl
theorem Qp6 (vs:List PV):gvals P tb nt ks (some vs) ops base i o rest accs draw k Q st=gout P tb nt ks (Qao P tb (base+i) o.op vs st.box) ops base i o.dst rest accs draw k Q st:=rfl
theorem Qtc (dst:Option Tmp) (v:PV) (es:List Eff) (l:Acc):gout P tb nt ks (some (.done v es,l)) ops base i dst rest accs draw k Q st=
  gops P tb nt ks ops base (i+1) rest ((l++Qbl es)::accs) draw k Q ((Qaf es st).put dst v):=rfl
theorem Qtd (dst:Option Tmp) (f:FuncId) (args:List PV) (es:List Eff) (l:Acc):gout P tb nt ks (some (.call f args es,l)) ops base i dst rest accs draw k Q st=
  gcall P tb nt ks f args es (l++Qbl es) ops base i dst rest accs draw k Q st:=rfl
def Qte (P:Program) (tb:Tab) (nt:Nat) (ks:List Nat) (f:FuncId) (args:List PV) (bxs:List (Nat×Box)) (es:List Eff) (θ ν:List (Nat×Nat)) (l:Acc) (ops:Array Oper) (base i:Nat) (dst:Option Tmp) (rest:List Oper) (accs:List Acc) (draw:Bool) (k:List It) (Q:Exit→St→Prop)
  (st:St):Prop:= ∃r bxs' r' ef,Qdl P f args bxs r bxs'∧land θ ν bxs' r=some (r',ef)∧gops P tb nt ks ops base (i+1) rest ((l++Qbl es++Qbl ef)::accs) draw k Q ((Qaf ((if Qf2 r bxs' then []else es)++ef) st).put dst r')
def gland (P:Program) (tb:Tab) (nt:Nat) (ks:List Nat) (x:Option (PV×List Eff)) (fl:Bool) (es:List Eff) (l:Acc) (ops:Array Oper) (base i:Nat) (dst:Option Tmp) (rest:List Oper) (accs:List Acc) (draw:Bool) (k:List It) (Q:Exit→St→Prop)
  (st:St):Prop:=match x with
 |some (r',ef)=>gops P tb nt ks ops base (i+1) rest ((l++Qbl es++Qbl ef)::accs) draw k Q ((Qaf ((if fl then []else es)++ef) st).put dst r')
 |none=>False
theorem Qp7 (dst:Option Tmp) (f:FuncId) (args:List PV) (bxs:List (Nat×Box)) (es:List Eff) (θ ν:List (Nat×Nat)) (l:Acc):gout P tb nt ks (some (.callB f args bxs es θ ν,l)) ops base i dst rest accs draw k Q st=
  Qte P tb nt ks f args bxs es θ ν l ops base i dst rest accs draw k Q st:=rfl
theorem Qju (dst:Option Tmp) (n stop:Nat) (args:List PV) (es:List Eff) (l:Acc):gout P tb nt ks (some (.yield n stop args es,l)) ops base i dst rest accs draw k Q st=
  (yOk st.yl n stop st.out args∧gops P tb nt ks ops base (i+1) rest ((l++Qbl es++[(YID,true)])::accs) draw k Q ((Qaf (es++[.yld args]) st).put dst (.bool (decide (st.out.length<stop))))):=rfl
theorem Qmb {dst:Option Tmp} {f:FuncId} {args:List PV} {bxs:List (Nat×Box)} {es:List Eff} {θ ν:List (Nat×Nat)} {l:Acc} {r:PV} {bxs':List (Nat×Box)} (hs:Qdl P f args bxs r bxs')
  (h:gland P tb nt ks (land θ ν bxs' r) (Qf2 r bxs') es l ops base i dst rest accs draw k Q st):Qte P tb nt ks f args bxs es θ ν l ops base i dst rest accs draw k Q st:=by
 unfold gland at h
 split at h
 ·rename_i r' ef hl;exact⟨r,bxs',r',ef,hs,hl,h⟩
 ·exact h.elim
theorem Qp8 (r':PV) (ef:List Eff) (fl:Bool) (es:List Eff) (l:Acc) (dst:Option Tmp):gland P tb nt ks (some (r',ef)) fl es l ops base i dst rest accs draw k Q st=
  gops P tb nt ks ops base (i+1) rest ((l++Qbl es++Qbl ef)::accs) draw k Q ((Qaf ((if fl then []else es)++ef) st).put dst r'):=rfl
theorem Qng:Qs7 false ops accs=True:=rfl
theorem Qaa (h:Qjr ops accs.reverse=true):Qs7 true ops accs:=h
end
theorem Qxa (P:Program) (rs:List ResultVar) (R:PV→Prop) (s:St):vret P rs R .ret s=match Qpz P rs s with|some r=>R r|none=>False:=rfl
theorem Qnh (P:Program) (rs:List ResultVar) (R:PV→Prop) (s:St):vret P rs R .normal s=match Qpz P rs s with|some r=>R r|none=>False:=rfl
def Q1c (x:Option (List PV×Acc)) (bs:List (Nat×Box)) (o:List (List PV)) (y:Yl) (r:PV) (bxs':List (Nat×Box)):Prop:=match x with
 |some (xs,_)=>Le (St.ofG [(0,Qin xs)] bs o y) (St.ofG [(0,r)] bxs' o y)
 |none=>False
theorem Qp9 (xs:List PV) (l:Acc) (bs:List (Nat×Box)) (o:List (List PV)) (y:Yl) (r:PV) (bxs':List (Nat×Box)):Q1c (some (xs,l)) bs o y r bxs'=Le (St.ofG [(0,Qin xs)] bs o y) (St.ofG [(0,r)] bxs' o y):=rfl
theorem Qge {P:Program} {rs:List ResultVar} {r:PV} {bxs':List (Nat×Box)} {vs:List (Nat×PV)} {bs:List (Nat×Box)} {o:List (List PV)} {y:Yl} {e:Exit} (he:e= .ret∨e= .normal)
  (h:Q1c (Qcu P (St.ofG vs bs o y) rs (lkp bs)) bs o y r bxs'):Qsx P rs r bxs' e (St.ofG vs bs o y):=by
 unfold Q1c at h
 split at h
 ·rename_i xs l hx
  rcases he with rfl|rfl
  ·exact⟨xs,l,hx,h⟩
  ·exact⟨xs,l,hx,h⟩
 ·exact h.elim
theorem Qac {P:Program} {tb:Tab} {f:FuncId} {fn:Func} {c:Code} {args:List PV} {r:PV} (nt:Nat) (rs:List ResultVar) (ks:List Nat) (hm:P.follows .mixedOrders=true) (hf:P.funcs[f]? =some fn) (hb:fn.body=some c)
  (hc:callable P f=true) (hnt:fn.ntmps=nt) (hrs:fn.results.toList=rs) (hn:Nat.ble args.length nt=true)
  (h:go P tb nt ks [.code c] (vret P rs (· =r)) (St.of (Qbu 0 args) [])):Qan P f args r:=
 Qwt nt rs hf hb hc hnt hrs hn (Qbv (tb:=tb) (ks:=ks) hm c _ _ (by
  simp only [go]at h
  have:(fun e s=>gleave P tb nt ks [] (vret P rs (· =r)) e s)=vret P rs (· =r):=by funext e s;simp only [gleave]
  rwa [this]at h))
theorem Qiq {P:Program} {tb:Tab} {f:FuncId} {fn:Func} {c:Code} {args:List PV} {bxs bxs':List (Nat×Box)} {r:PV} (nt:Nat) (rs:List ResultVar) (ks:List Nat) (hm:P.follows .mixedOrders=true) (hf:P.funcs[f]? =some fn) (hb:fn.body=some c)
  (hc:callable P f=true) (hnt:fn.ntmps=nt) (hrs:fn.results.toList=rs) (hn:Nat.ble args.length nt=true) (hL:(bxs.all fun p=>Nat.ble LENT p.1)=true)
  (h:go P tb nt ks [.code c] (Qsx P rs r bxs') (St.of (Qbu 0 args) bxs)):Qdl P f args bxs r bxs':=
 Qsy nt rs hf hb hc hnt hrs hn hL (Qbv (tb:=tb) (ks:=ks) hm c _ _ (by
  simp only [go]at h
  have:(fun e s=>gleave P tb nt ks [] (Qsx P rs r bxs') e s)=Qsx P rs r bxs':=by funext e s;simp only [gleave]
  rwa [this]at h))
theorem Qb5 {P:Program} {tb:Tab} {nt:Nat} {ks:List Nat} {k:List It} {Q:Exit→St→Prop} {st:St} {α:Type} (hm:P.follows .mixedOrders=true) (I:α→St) (μ:α→Nat) {c:Code} (x0:α) (h0:Le st (I x0))
  (round: ∀x,go P tb nt ks (.code c:: .again (fun s=> ∃y,μ y<μ x∧Le s (I y))::k) Q (I x)):go P tb nt ks (.code (.loop c)::k) Q st:=by
 simp only [go,vx]
 refine Qkq I μ x0 h0 fun x=>Qfw (Qbv (tb:=tb) (ks:=ks) hm c _ _ (by have:=round x;simpa only [go]using this)) ?_
 intro e s h
 cases e<;>simpa only [gleave,vthen]using h
end Go.Vl

namespace Go.Vl
theorem Qam {n:Int} (h1: -9223372036854775808≤n) (h2:n≤9223372036854775807):IntKind.i64.wrap n=n:=IntWalk.i64_in n ⟨h1,h2⟩
theorem Qce {vs vs':List (Nat×PV)} {bs:List (Nat×Box)} {o:List (List PV)} {y:Yl} (hv:Qad [] vs vs'):Le (St.ofG vs bs o y) (St.ofG vs' [] o y):=
 Qaq (θ:=[]) rfl hv trivial
end Go.Vl
