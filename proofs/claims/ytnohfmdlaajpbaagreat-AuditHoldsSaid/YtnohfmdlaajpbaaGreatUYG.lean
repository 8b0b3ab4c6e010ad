/-
  UY, UYG (merged for the claim).
-/
import Derived.Test.YtnohfmdlaajpbaaGreatUV
import Derived.Test.YtnohfmdlaajpbaaGreatULD
import Derived.RangeFuncIn
set_option linter.unusedSimpArgs false
set_option linter.unusedVariables false
namespace Go.Vl
open Go.RowKit
theorem Qda.own {own own':Nat→Prop} {w:World} {im:Im} {ρ:Rho} {B:Box} {x:Option Nat} (h:Qda own w im ρ B x) (ho: ∀g,x=some g→own' g):Qda own' w im ρ B x:=by
 cases x with
 |none=>exact h
 |some g=>exact⟨ho g rfl,h.2⟩
structure Raw (nt:Nat) (st:St) (tm:Array Value) (w:World) (ρ:Rho) (im:Im):Prop where
 nt:tm.size=nt
 imc: ∀g j,im g j→ ∃u,w.cell? ⟨g,j,none⟩=some u
 var: ∀t v,st.var t=some v→LR w im ρ v (tm.getD t undef)
 rho: ∀b,ρ b=none↔st.box b=none
 box: ∀b x B,ρ b=some x→st.box b=some B→Qda (Own ρ) w im ρ B x
 inj: ∀b b' g B B',ρ b=some (some g)→ρ b'=some (some g)→st.box b=some B→st.box b'=some B'→B.live=true→B'.live=true→b=b'
theorem Rel'.raw {C:Ctx} {st:St} {a:Act} {w:World} {ρ:Rho} {im:Im} (h:Rel' C st a w ρ im):Raw C.nt st a.tmps w ρ im:=
 ⟨h.nt,h.imc,h.var,h.rho,fun b x B hx hB=>(h.box b x B hx hB).own fun g e=>⟨b,by rw [hx,e]⟩,h.inj⟩
section
variable {nt:Nat} {st:St} {tm:Array Value} {w w':World} {ρ:Rho} {im im':Im}
theorem Raw.blk (h:Raw nt st tm w ρ im) {g:Nat} (hg:Own ρ g):(∃cur e,w.heap[g]? =some (Obj.cells cur e (0,0)))∨ ∃ms clock,w.heap[g]? =some (Obj.map ms clock):=by
 obtain⟨b,hb⟩:=hg;cases hB:st.box b with
 |none=>rw [(h.rho b).2 hB]at hb;cases hb
 |some B=>
  obtain⟨_,_,_,_,⟨hmn,cur,us,rest,h5,_⟩|hm⟩:=h.box b _ B hb hB
  ·exact .inl ⟨cur,_,h5⟩
  ·obtain⟨_,_,_,_,ms,clock,_,h5,_⟩:=hm;exact .inr ⟨ms,clock,h5⟩
theorem Raw.lt (h:Raw nt st tm w ρ im) {g:Nat} (hg:Own ρ g):g<w.heap.size:=
 (h.blk hg).elim (fun⟨_,_,e⟩=>(Array.getElem?_eq_some_iff.1 e).1) fun⟨_,_,e⟩=>(Array.getElem?_eq_some_iff.1 e).1
theorem Raw.world (h:Raw nt st tm w ρ im) (hk:Keeps im w w') (ho: ∀g,Own ρ g→w'.heap[g]? =w.heap[g]?):Raw nt st tm w' ρ im where
 nt:=h.nt
 imc:=fun g j hi=>by rw [hk.cell g j hi];exact h.imc g j hi
 var:=fun t v hv=>(h.var t v hv).mono hk (fun _ _ x=>x) (fun _ _ x=>x)
 rho:=h.rho
 box:=fun b x B hx hB=>(h.box b x B hx hB).mono hk (fun _ _ x=>x) (fun _ _ _ _ x=>x) (fun _ _ x=>x) (fun _ g hg=>ho g ⟨b,by rw [hx,hg]⟩)
 inj:=h.inj
theorem Raw.grow (h:Raw nt st tm w ρ im) (hi: ∀g j,im g j→im' g j) (hn: ∀g j,im' g j→im g j∨((∃u,w.cell? ⟨g,j,none⟩=some u)∧ ¬Own ρ g)):Raw nt st tm w ρ im' where
 nt:=h.nt
 imc:=fun g j x=>(hn g j x).elim (h.imc g j) fun y=>y.1
 var:=fun t v hv=>(h.var t v hv).mono (Keeps.refl _ _) hi (fun _ _ x=>x)
 rho:=h.rho
 box:=fun b x B hx hB=>(h.box b x B hx hB).mono (Keeps.refl _ _) hi (fun _ g j e hh=>(hn g j hh).elim id fun y=>absurd ⟨b,by rw [hx,e]⟩ y.2) (fun _ _ x=>x) (fun _ _ _=>rfl)
 inj:=h.inj
end
def Qhz (P:Program) (nt:Nat) (w:World) (im:Im) (ρ:Rho) (F:Nat) (hF:F≤w.heap.size) (hlay:Laid P F w) (hXF: ∀g,Own ρ g→F≤g):Ctx where
 P:=P
 w0:=w
 F:=F
 hF:=hF
 lay:=hlay
 hXF:=hXF
 im0:=im
 nt:=nt
 ρ0:=ρ
 X:=Own ρ
 hX:=fun _ h=>h
 J:=fun _ _ o _=>o.length=1
 hJ:=fun _ _ h=>h
 yl:=some (0,0,[])
 hY:=fun h _ _ _ o _ _ _ ho hj=>by cases h;simp at*
theorem Raw.rel {P:Program} {nt:Nat} {st:St} {tm:Array Value} {w:World} {ρ:Rho} {im:Im} {F:Nat} (h:Raw nt st tm w ρ im) (hF:F≤w.heap.size) (hlay:Laid P F w) (hXF: ∀g,Own ρ g→F≤g)
  (ho:st.out.length=1) (hy:st.yl=some (0,0,[])):Rel' (Qhz P nt w im ρ F hF hlay hXF) st {tmps:=tm,defers:=[]} w ρ im where
 root:=⟨.refl _ _ _,Keeps.refl _ _,fun _ _ x=>x,fun _ _ x=> .inl x,fun b x x' _ h0 hx=>by rw [show(Qhz P nt w im ρ F hF hlay hXF).ρ0 b=ρ b from rfl]at h0;rw [h0]at hx;exact(Option.some.inj hx).symm,ho,hy⟩
 nt:=h.nt
 dfr:=⟨fun _=>rfl,[],rfl,by simp,by simp⟩
 imc:=h.imc
 var:=h.var
 rho:=h.rho
 box:=fun b x B hx hB=>(h.box b x B hx hB).own fun g e=> .inr ⟨b,by rw [←e];exact hx⟩
 inj:=h.inj
def Qf3 (P:Program) (f:FuncId) (cap:List PV) (outs:List (List PV)):Prop:=
 callable P f=true∧ ∀(l stop:Nat) (w:World) (im:Im) (us:List Value) (F:Nat) (_hF:F≤w.heap.size) (_hlay:Laid P F w) (X:Nat→Prop) (_hXF: ∀g,X g→F≤g)
  (J:(Nat→Prop)→Im→List (List PV)→World→Prop)
  (_hJ: ∀{ρ im w ρ' im' w'} (o:List (List PV)),Step ρ im w ρ' im' w'→J (Own ρ) im o w→J (Own ρ') im' o w')
  (_hU: ∀{own:Nat→Prop} {im:Im} {w':World} (o:List (List PV)) (D:Nat),w.heap.size≤D→w'.heap[D]? =some (.deferred (some []))→J own im o w'→J own im o (w'.putObj D (.deferred none)))
  (_hY: ∀{ρ:Rho} {im:Im} {w':World} (o:List (List PV)) (args:List PV) (us:List Value),o.length≤stop→outs[o.length]? =some args→J (Own ρ) im o w'→(∀g,Own ρ g→g<w'.heap.size)→
   (∀g j,im g j→ ∃u,w'.cell? ⟨g,j,none⟩=some u)→RepL w' im args us→w.heap.size≤w'.heap.size→ ∃fn tmps assign body,(Instr.yield l us.toArray).run P w'= .ok (.round l fn tmps assign body) w'∧
    RoundIn Fence.wide 0 P l fn tmps assign body w' fun e w''=>e= .returned (.bool (decide (o.length<stop)))∧Turn X w.heap.size ρ im w' w''∧J (Own ρ) im (o++[args]) w''),
  RepL w im cap us→(∀g j,im g j→ ∃u,w.cell? ⟨g,j,none⟩=some u)→J (fun _=>False) im [] w→
  Calls P f (#[.func (.yield l) #[] #[]]++us.toArray) w fun e w'=> ∃v own im',e= .returned v∧J own im' (outs.take (stop+1)) w'∧ ∀g j,im' g j→ ∃u,w'.cell? ⟨g,j,none⟩=some u
def Qh5 (outs:List (List PV)) (stop:Nat):Exit→St→Prop
 | .normal,s| .ret,s=>s.out=outs.take (stop+1)
 |_,_=>False
theorem Qb6 (g:Nat): ¬Own (fun _=>none:Rho) g:=by rintro⟨b,e⟩;cases e
theorem Zdx {P:Program} {f:FuncId} {fn:Func} {c:Code} {cap:List PV} {outs:List (List PV)} (nt:Nat) (hf:P.funcs[f]? =some fn) (hb:fn.body=some c) (hc:callable P f=true)
  (hnt:fn.ntmps=nt) (hrs:fn.results.toList=[]) (hn:Nat.ble (cap.length+1) nt=true)
  (h: ∀l stop,Vwp P nt c (Qh5 outs stop) (St.ofG (Qcf 0 (.yld l stop::cap)) [] [] (some (l,stop,outs)))):Qf3 P f cap outs:=by
 subst hnt;refine⟨hc,fun l stop w im us F hF hlay X hXF J hJ _ hY hr hi hj=> ?_⟩;have hJ0:Own (fun _=>none:Rho)=fun _=>False:=by funext g;exact propext ⟨Qb6 g,False.elim⟩
 let C:Ctx:={P:=P,w0:=w,F:=F,hF:=hF,lay:=hlay,im0:=im,nt:=fn.ntmps,ρ0:=fun _=>none,X:=X,hX:=fun g x=>absurd x (Qb6 g),hXF:=hXF,J:=J,hJ:=hJ,yl:=some (l,stop,outs),hY:=by intro l' stop' outs' e;cases e;exact hY}
 have hrL:LRL w im (fun _=>none) (.yld l stop::cap) (Value.func (.yield l) #[] #[]::us):= .cons _ _ _ _ (.ext _ _ (.yld l stop)) hr.toLRL;have h0:Rel C (St.ofG (Qcf 0 (.yld l stop::cap)) [] [] (some (l,stop,outs))) {tmps:=(Value.func (.yield l) #[] #[]::us).toArray++Array.replicate (fn.ntmps-(Value.func (.yield l) #[] #[]::us).toArray.size) undef,defers:=[]} w:=by
  have hlen:=hrL.length;have hn':=Nat.le_of_ble_eq_true hn;refine⟨fun _=>none,im,⟨.refl _ _ _,Keeps.refl _ _,fun _ _ x=>x,fun _ _ x=> .inl x,fun b x x' _ h0 _=>(by cases h0),(by show J _ _ _ _;rw [hJ0];exact hj),rfl⟩,?_,⟨fun _=>rfl,[],rfl,by simp,by simp⟩,hi,?_,fun b=>by simp [St.ofG,lkp],fun b x B hx=>(by cases hx),fun b b' g B B' hx=>(by cases hx)⟩
  ·simp only [List.length_cons]at hlen;simp only [Array.size_append,List.size_toArray,Array.size_replicate,List.length_cons];show us.length+1+(fn.ntmps-(us.length+1))=fn.ntmps;omega
  ·intro t v hv;obtain⟨_,h2⟩:=Qea _ 0 t v hv;simp only [Nat.sub_zero]at h2;obtain⟨u,hu,hrep⟩:=hrL.get t v h2;have ht:t<(Value.func (.yield l) #[] #[]::us).length:=(List.getElem?_eq_some_iff.1 hu).1;have:((Value.func (.yield l) #[] #[]::us).toArray++Array.replicate (fn.ntmps-(Value.func (.yield l) #[] #[]::us).toArray.size) undef)[t]? =some u:=by
    rw [Array.getElem?_append_left (by simpa using ht)];simpa using hu
   simp only [Array.getD_eq_getD_getElem?,this,Option.getD_some];exact hrep
 have harr:(#[Value.func (.yield l) #[] #[]]++us.toArray)=(Value.func (.yield l) #[] #[]::us).toArray:=by apply Array.ext';simp
 rw [harr];refine(callsIn_wide (n:=0)).1 (callsIn_of_wp_marks (F:=FW none) hf hb trivial (wpIn_mono (h l stop C rfl rfl ⟨none,fun _=>rfl⟩ _ _ h0) ?_));rintro e a' w' ⟨s,hq,ρ',im',h'⟩;have hd:a'.defers=[]:=h'.dfr.1 ⟨by simp [C],rfl⟩;have hgh:J (Own ρ') im' s.out w':=h'.root.ghost;have key:Qh5 outs stop .ret s→LeavesInM (FW none) 0 P fn a'.tmps (fun e w'=> ∃v own im',e= .returned v∧J own im' (outs.take (stop+1)) w'∧ ∀g j,im' g j→ ∃u,w'.cell? ⟨g,j,none⟩=some u) a'.defers .returning w':=by
  intro hq;simp only [Qh5]at hq;rw [hd];refine⟨_,Qfy (vals:=[]) (by rw [hrs];simp),_,Own ρ',im',rfl,?_,h'.imc⟩;rw [←hq];exact hgh
 cases e with
 |normal=>exact key hq
 |ret=>exact key hq
 |_=>exact hq.elim
theorem Raw.ren {nt:Nat} {tm:Array Value} {w:World} {ρ:Rho} {im:Im} {θ:List (Nat×Nat)} {vs vs':List (Nat×PV)} {bs bs':List (Nat×Box)} {o o':List (List PV)} {y y':Yl} (h:Raw nt (St.ofG vs bs o y) tm w ρ im)
  (hκ:Qi2 θ=true) (hall:(θ.all fun p=>(lkp bs' p.1).isSome)=true) (hv:Qac θ vs vs') (hb:Qd9 θ bs bs'):Raw nt (St.ofG vs' bs' o' y') tm w (rhoC θ ρ) im:=by
 have hinj: ∀b1 b2 b0,lkp θ b1=some b0→lkp θ b2=some b0→b1=b2:=by
  intro b1 b2 b0 e1 e2;have z1:=(Qbt hκ).1 e1;have z2:=(Qbt hκ).1 e2;rw [z1]at z2;exact Option.some.inj z2
 have hkey: ∀b b0,lkp θ b=some b0→(lkp bs' b).isSome=true:=fun b b0 e=>List.all_eq_true.1 hall _ (Qce e);have hthere: ∀b B',lkp bs' b=some B'→ ∃b0 B x,lkp θ b=some b0∧lkp bs b0=some B∧Box.renD θ B' B∧ρ b0=some x:=by
  intro b B' hB';obtain⟨b0,B,e1,e2,e3⟩:=Qjk hb hB';cases hx:ρ b0 with
  |none=>
   have:=(h.rho b0).1 hx;simp only [Qhy]at this;rw [e2]at this;cases this
  |some x=>exact⟨b0,B,x,e1,e2,e3,hx⟩
 have hρ: ∀b b0 x,lkp θ b=some b0→ρ b0=some x→rhoC θ ρ b=some x:=by
  intro b b0 x e1 e2;simp only [rhoC,e1];exact e2
 have hback: ∀b x,rhoC θ ρ b=some x→ ∃b0,lkp θ b=some b0∧ρ b0=some x:=by
  intro b x e;simp only [rhoC]at e;cases hb0:lkp θ b with
  |none=>rw [hb0]at e;cases e
  |some b0=>rw [hb0]at e;exact⟨b0,rfl,e⟩
 refine⟨h.nt,h.imc,?_,?_,?_,?_⟩
 ·intro t v hvt;obtain⟨x,e1,e2⟩:=Qfx hv hvt;exact Qhk hρ e2 (h.var t x e1)
 ·intro b;constructor
  ·intro e;cases hB':lkp bs' b with
   |none=>exact hB'
   |some B'=>
    obtain⟨b0,B,x,e1,_,_,e4⟩:=hthere b B' hB';rw [hρ b b0 x e1 e4]at e;cases e
  ·intro e;simp only [rhoC];cases hb0:lkp θ b with
   |none=>rfl
   |some b0=>have:=hkey b b0 hb0;simp only [Qhy]at e;rw [e]at this;cases this
 ·intro b x B' hx hB';obtain⟨b0,B,x0,e1,e2,r0,e4⟩:=hthere b B' hB';obtain⟨r1,r2,r3,r4,r5,r6⟩:=r0.parts;obtain⟨r5,rm⟩:=Prod.mk.inj r5;have hown: ∀g,x=some g→Own (rhoC θ ρ) g:=fun g e=>⟨b,by rw [hx,e]⟩;rw [hρ b b0 x0 e1 e4]at hx;cases hx;have hbox:=h.box b0 x B e4 e2;cases x with
  |none=>
   obtain⟨z1,z2,z3,z4⟩:=hbox;rcases r6 with⟨_,r6⟩|⟨q1,v,v',q2,q3,_⟩|⟨q1,q2,_⟩
   ·exact⟨by rw [←r6];exact z1,by rw [r5];exact z2,by rw [r3];exact z3,by rw [r1];exact z4⟩
   ·rw [q3]at z1;cases z1
   ·rw [r5]at q1;rw [q1]at z2;cases z2
  |some g=>
   obtain⟨h1,h2,h3,h4,⟨hmn,cur,us,rest,h5,h6,h7,h8,h9,h10,h11⟩|hm⟩:=hbox
   case inr=>
    rcases r6 with⟨ra,r6⟩|⟨q1,v,v',q2,q3,q4,q5⟩|⟨q1,q2,q3⟩
    ·obtain⟨m1,m2,m3,m4⟩:=hm;exact⟨hown g rfl,by rw [r3,←r6];exact h2,by rw [r1];exact h3,by rw [r1,←r6];exact h4,.inr ⟨by rw [←r6];exact m1,ra,by rw [r4];exact m3,by rw [rm];exact m4⟩⟩
    ·rw [hm.1]at q3;cases q3
    ·rw [r5,hm.2.1]at q1;cases q1
   replace h1:=hown g rfl
   rcases r6 with⟨ra,r6⟩|⟨q1,v,v',q2,q3,q4,q5⟩|⟨q1,q2,q3⟩
   ·refine⟨h1,by rw [r3,←r6];exact h2,by rw [r1];exact h3,by rw [r1,←r6];exact h4,.inl ⟨rm.trans hmn,cur,us,rest,by rw [r2];exact h5,h6,?_,by rw [r5,←r6];exact h8,h9,by rw [r3,r1,r4];exact h10,by rw [r3,r1,r4];exact h11⟩⟩;rw [←r6];exact(h8 (by rw [←r5];exact ra)).toLRL
   ·obtain⟨k1,k2⟩:=Qhl (w:=w) (im:=im) q4 q5;rw [q3]at h2 h4 h7 h8;simp only [List.flatMap_cons,List.flatMap_nil,List.append_nil]at h7 h8;refine⟨h1,by rw [r3,q2];exact h2,by rw [r1];exact h3,?_,.inl ⟨rm.trans hmn,cur,us,rest,by rw [r2];exact h5,h6,?_,?_,h9,by rw [r3,r1,r4];exact h10,by rw [r3,r1,r4];exact h11⟩⟩
    ·intro e he;rw [q2]at he;simp only [List.mem_singleton]at he;subst he;rw [k1,r1];exact h4 v (by simp)
    ·rw [q2];simpa using k2 ρ (rhoC θ ρ) hρ us h7
    ·intro ha;rw [q1]at ha;cases ha
   ·obtain⟨k1,k2⟩:=Qke (w:=w) (im:=im) (ρ:=ρ) (ρ':=rhoC θ ρ) hρ B'.els B.els q2 q3;have kl:B'.els.length=B.els.length:=by have:=congrArg List.length k1;simpa using this
    refine⟨h1,by rw [r3,kl];exact h2,by rw [r1];exact h3,?_,.inl ⟨rm.trans hmn,cur,us,rest,by rw [r2];exact h5,h6,k2 us h7,fun(ha:B'.arr=true)=>absurd (q1.symm.trans ha) (by decide),h9,by rw [r3,r1,r4];exact h10,by rw [r3,r1,r4];exact h11⟩⟩;intro e he;have:e.cells.length∈B'.els.map (fun v=>v.cells.length):=List.mem_map.2 ⟨e,he,rfl⟩;rw [k1]at this;obtain⟨d,hd,e3⟩:=List.mem_map.1 this;rw [←e3,r1];exact h4 d hd
 ·intro b1 b2 g B1 B2 p1 p2 e1 e2 l1 l2;obtain⟨b01,t1,t2⟩:=hback b1 _ p1;obtain⟨b02,t3,t4⟩:=hback b2 _ p2;obtain⟨c01,D1,x1,u1,u2,r10,u4⟩:=hthere b1 B1 e1;obtain⟨c02,D2,x2,u5,u6,r20,u8⟩:=hthere b2 B2 e2;have v1:=r10.parts.2.2.2.1;have v2:=r20.parts.2.2.2.1;rw [t1]at u1;cases u1;rw [t3]at u5;cases u5;have:=h.inj b01 b02 g D1 D2 t2 t4 u2 u6 (by rw [←v1];exact l1) (by rw [←v2];exact l2);subst this;exact hinj b1 b2 b01 t1 t3
theorem Qlw {θ:List (Nat×Nat)} {ρ:Rho} {g:Nat} (h:Own (rhoC θ ρ) g):Own ρ g:=by
 obtain⟨b,e⟩:=h;simp only [rhoC]at e;cases hb:lkp θ b with
 |none=>rw [hb]at e;cases e
 |some b0=>rw [hb]at e;exact⟨b0,e⟩
def pvars:List Tmp→List PV→List (Nat×PV)→List (Nat×PV)
 |t::ts,v::vs,acc=>pvars ts vs ((t,v)::acc)
 |_,_,acc=>acc
theorem Rel'.pvars {C:Ctx} {w:World} {ρ:Rho} {im:Im} {bs:List (Nat×Box)} {o:List (List PV)} {y:Yl}: ∀{ps:List Tmp} {args:List PV} {us:List Value} {vs:List (Nat×PV)} {tm:Array Value},ps.length=args.length→RepL w im args us→(∀t∈ps,t<C.nt)→
  Rel' C (St.ofG vs bs o y) {tmps:=tm,defers:=[]} w ρ im→Rel' C (St.ofG (Vl.pvars ps args vs) bs o y) {tmps:=(ps.zip us).foldl (fun t p=>t.setIfInBounds p.1 p.2) tm,defers:=[]} w ρ im
 | [],[],us,vs,tm,_,hr,_,h=>by simpa [Vl.pvars]using h
 |t::ps,v::args,_,vs,tm,hl,.cons _ u _ us hv hr,hp,h=>by
  have h1:=h.setVar (t:=t) (hp t (by simp)) (v:=v) (u:=u) (.ext _ _ hv);exact Rel'.pvars (ps:=ps) (args:=args) (us:=us) (by simpa using hl) hr (fun x hx=>hp x (by simp [hx])) h1
 | [],_::_,_,_,_,hl,_,_,_=>by simp at hl
 |_::_,[],_,_,_,hl,_,_,_=>by simp at hl
structure Going (nt:Nat) (w:World) (ρ:Rho) (im:Im) (tm:Array Value) (st:St) (r:Loop) (own:Nat→Prop) (imc:Im) (W:World) (ρb:Rho) (imb:Im):Prop where
 step:Step ρ im w ρb imb W
 raw:Raw nt st tm W ρb imb
 sub: ∀g j,imc g j→imb g j∨ ¬Own ρb g
 imcn: ∀g j,imc g j→im g j∨Own ρ g∨w.heap.size≤g
 apart: ∀g,own g→w.heap.size+2≤g∧ ¬Own ρb g
 out: ∀g j,imb g j→imc g j∨ ¬own g
 recd:W.heap[w.heap.size+1]? =some (.loop r)
 mark:W.heap[w.heap.size]? =some (.deferred (some []))
theorem Going.step' {nt:Nat} {w:World} {ρ:Rho} {im:Im} {tm:Array Value} {st:St} {r:Loop} {ρc ρc':Rho} {imc imc':Im} {W W':World} {ρb:Rho} {imb:Im} (h:Going nt w ρ im tm st r (Own ρc) imc W ρb imb) (s:Step ρc imc W ρc' imc' W'):
  Going nt w ρ im tm st r (Own ρc') imc' W' ρb imb:=by
 have hsz:w.heap.size+1<W.heap.size:=(Array.getElem?_eq_some_iff.1 h.recd).1;have hown: ∀g,Own ρb g→W'.heap[g]? =W.heap[g]? :=fun g hg=>s.lent.block g (h.raw.lt hg) fun x=>(h.apart g x).2 hg;have hk:Keeps imb W W':=⟨fun g j hi=>by
  rcases h.out g j hi with x|x
  ·exact s.keep.cell g j x
  ·obtain⟨u,hu⟩:=h.raw.imc g j hi;have hlt:g<W.heap.size:=World.block_lt_of_cell? W _ hu;exact World.cell?_of_block (w:=W) (a:=⟨g,j,none⟩) (s.lent.block g hlt x),s.keep.obj,s.keep.oth⟩
 have hno: ∀k,k<w.heap.size+2→ ¬Own ρc k:=fun k hk x=>by have:=(h.apart k x).1;omega
 refine⟨⟨h.step.lent.trans (s.lent.mono h.step.lent.size fun k hk x=>absurd x (hno k (by omega))),h.step.keep.trans hk h.step.mono,h.step.own,h.step.mono,h.step.imn⟩,h.raw.world hk hown,?_,?_,?_,?_,?_,?_⟩
 ·intro g j x;rcases s.imn g j x with y|y|y
  ·exact h.sub g j y
  ·exact .inr (h.apart g y).2
  ·exact .inr fun z=>by have:=h.raw.lt z;omega
 ·intro g j x;rcases s.imn g j x with y|y|y
  ·exact h.imcn g j y
  ·have:=(h.apart g y).1;exact .inr (.inr (by omega))
  ·exact .inr (.inr (by omega))
 ·intro g x;rcases s.own g x with y|y
  ·exact h.apart g y
  ·exact⟨by omega,fun z=>by have:=h.raw.lt z;omega⟩
 ·intro g j x;rcases h.out g j x with y|y
  ·exact .inl (s.mono g j y)
  ·refine .inr fun z=> ?_;rcases s.own g z with q|q
   ·exact y q
   ·obtain⟨u,hu⟩:=h.raw.imc g j x;have hlt:g<W.heap.size:=World.block_lt_of_cell? W _ hu;omega
 ·rw [s.lent.block _ hsz (hno _ (by omega))];exact h.recd
 ·rw [s.lent.block _ (by omega) (hno _ (by omega))];exact h.mark
theorem Qfz {W:World} {D g j:Nat} {u:Value} (hd:W.heap[D]? =some (.deferred (some []))) (h:W.cell? ⟨g,j,none⟩=some u):(W.putObj D (.deferred none)).cell? ⟨g,j,none⟩=W.cell? ⟨g,j,none⟩:=by
 refine World.cell?_of_block (w:=W) (a:=⟨g,j,none⟩) (Qa9 W D _ g ?_);rintro rfl;simp [World.cell?,hd]at h
theorem Raw.unmark {nt:Nat} {st:St} {tm:Array Value} {W:World} {ρ:Rho} {im:Im} {D:Nat} (h:Raw nt st tm W ρ im) (hd:W.heap[D]? =some (.deferred (some []))):Raw nt st tm (W.putObj D (.deferred none)) ρ im:=by
 have hoth: ∀g,g≠D→(W.putObj D (.deferred none)).heap[g]? =W.heap[g]? :=fun g hg=>Qa9 W D _ g hg;have hcell: ∀g j,im g j→(W.putObj D (.deferred none)).cell? ⟨g,j,none⟩=W.cell? ⟨g,j,none⟩:=fun g j x=>(h.imc g j x).elim fun u hu=>Qfz hd hu;have hobj: ∀(g:Nat) (cur:Array Value) (e:TypeId),W.heap[g]? =some (Obj.cells cur e (0,0))→ ∃cur':Array Value,(W.putObj D (.deferred none)).heap[g]? =some (Obj.cells cur' e (0,0))∧cur'.size=cur.size:=by
  intro g cur e hg;exact⟨cur,by rw [hoth g (by rintro rfl;rw [hd]at hg;cases hg)];exact hg,rfl⟩
 have hown: ∀g,Own ρ g→(W.putObj D (.deferred none)).heap[g]? =W.heap[g]? :=fun g hg=>hoth g (by
  rintro rfl;rcases h.blk hg with⟨cur,e,x⟩|⟨cur,e,x⟩<;>(rw [hd]at x;cases x))
 refine⟨h.nt,fun g j x=>by rw [hcell g j x];exact h.imc g j x,fun t v hv=>LR.mono0 hcell hobj (fun _ _ x=>x) (fun _ _ x=>x) (h.var t v hv),h.rho,fun b x B hx hB=> ?_,h.inj⟩;have hb:=h.box b x B hx hB;cases x with
 |none=>exact hb
 |some g=>
  have hg:=hown g ⟨b,hx⟩;obtain⟨h1,h2,h3,h4,⟨hmn,cur,us,rest,h5,h6,h7,h8,h9,h10,h11⟩|hm⟩:=hb
  ·exact⟨h1,h2,h3,h4,.inl ⟨hmn,cur,us,rest,hg.trans h5,h6,LRL.mono0 hcell hobj (fun _ _ x=>x) (fun _ _ x=>x) h7,fun ha=>(h8 ha).mono hcell fun _ _ x=>x,h9,h10,h11⟩⟩
  ·exact⟨h1,h2,h3,h4,.inr (hm.mono hcell (fun _ _ x=>x) hg)⟩
theorem Going.unmark {nt:Nat} {w:World} {ρ:Rho} {im:Im} {tm:Array Value} {st:St} {r:Loop} {own:Nat→Prop} {imc:Im} {W:World} {ρb:Rho} {imb:Im} {D:Nat} (h:Going nt w ρ im tm st r own imc W ρb imb) (hD:w.heap.size+2≤D) (hd:W.heap[D]? =some (.deferred (some []))):
  Going nt w ρ im tm st r own imc (W.putObj D (.deferred none)) ρb imb:=by
 have hoth: ∀g,g≠D→(W.putObj D (.deferred none)).heap[g]? =W.heap[g]? :=fun g hg=>Qa9 W D _ g hg;have hsz:(W.putObj D (.deferred none)).heap.size=W.heap.size:=by simp [World.putObj]
 refine⟨⟨⟨h.step.lent.os,h.step.lent.tape,h.step.lent.output,by rw [hsz];exact h.step.lent.size,fun k hk hx=>(hoth k (by omega)).trans (h.step.lent.block k hk hx)⟩,⟨fun g j x=> ?_,fun g cur e hg=> ?_,fun g o hg ho=> ?_⟩,h.step.own,h.step.mono,h.step.imn⟩,h.raw.unmark hd,h.sub,h.imcn,h.apart,h.out,(hoth _ (by omega)).trans h.recd,(hoth _ (by omega)).trans h.mark⟩
 ·obtain⟨u,hu⟩:=h.raw.imc g j (h.step.mono g j x);rw [Qfz hd hu];exact h.step.keep.cell g j x
 ·obtain⟨cur',e1,e2⟩:=h.step.keep.obj g cur e hg;exact⟨cur',by rw [hoth g (by rintro rfl;rw [hd]at e1;cases e1)];exact e1,e2⟩
 ·have hlt:=(Array.getElem?_eq_some_iff.1 hg).1;rw [hoth g (by omega)];exact h.step.keep.oth g o hg ho
theorem Qcc {im:Im} {W:World} {l:Nat} {r r':Loop} (h:W.heap[l]? =some (.loop r)):Keeps im W (W.putObj l (.loop r')):=by
 refine⟨fun g j _=> ?_,fun g cur e hg=>⟨cur,?_,rfl⟩,fun g o hg ho=> ?_⟩
 ·by_cases e:g=l
  ·subst e;have h1:(W.putObj g (.loop r')).heap[g]? =some (.loop r'):=World.putObj_heap_same (Array.getElem?_eq_some_iff.1 h).1;simp [World.cell?,h,h1]
  ·exact World.cell?_of_block (w:=W) (a:=⟨g,j,none⟩) (Qa9 W l _ g e)
 ·rw [Qa9 W l _ g (by rintro rfl;rw [h]at hg;cases hg)];exact hg
 ·rw [Qa9 W l _ g (by rintro rfl;rw [h]at hg;cases hg;cases ho)];exact hg
theorem Raw.putLoop {nt:Nat} {st:St} {tm:Array Value} {W:World} {ρ:Rho} {im:Im} {l:Nat} {r r':Loop} (h:Raw nt st tm W ρ im) (hl:W.heap[l]? =some (.loop r)):Raw nt st tm (W.putObj l (.loop r')) ρ im:=
 h.world (Qcc hl) fun g hg=>Qa9 W l _ g (by
  rintro rfl;rcases h.blk hg with⟨cur,e,x⟩|⟨cur,e,x⟩<;>(rw [hl]at x;cases x))
def Qki (N:List Nat):List (Nat×Nat):=N.map fun b=>(b,b)
theorem Zdy {N:List Nat} {b b0:Nat} (h:lkp (Qki N) b=some b0):b0=b∧b∈N:=by
 have:=Qce h;simp only [Qki,List.mem_map,Prod.mk.injEq]at this;obtain⟨x,hx,rfl,rfl⟩:=this;exact⟨rfl,hx⟩
def Qjo:Exit→Option Code
 | .ret=>some .ret
 | .exit id=>some (.exit id)
 |_=>none
def vround (B:Nat→List (Nat×Box)) (stop:Nat) (jump:Exit) (k:Nat):Exit→St→Prop
 | .normal,s=>k<stop∧Le s (St.ofG [] (B (k+1)) [[]] (some (0,0,[])))
 | .ret,s=>k=stop∧jump= .ret∧Le s (St.ofG [] (B (k+1)) [[]] (some (0,0,[])))
 | .exit id,s=>k=stop∧jump= .exit id∧Le s (St.ofG [] (B (k+1)) [[]] (some (0,0,[])))
 |_,_=>False
theorem Qrq {P:Program} {nt:Nat} {Q:Exit→St→Prop} {vs0:List (Nat×PV)} {bs0:List (Nat×Box)} {o0:List (List PV)} {g:Operand} {ps:Array Tmp} {assign body:Code} {f:FuncId} {cap xs:List PV} {es:List Eff} {la:Acc} {outs:List (List PV)}
  (hg:(St.ofG vs0 bs0 o0 none).ev g=some (.fn f [] cap)) (he:Qev cap (lkp bs0)=some ((xs,es),la)) (hs:Qf3 P f xs outs)
  (bs1:List (Nat×Box)) (he1:Qan es (St.ofG vs0 bs0 o0 none)=St.ofG vs0 bs1 o0 none)
  -- names of boxes inside the loop, by names outside; those that stay
  (θ:List (Nat×Nat)) (N:List Nat) (hN:(N.all fun b=>Nat.ble LENT b)=true) (vs:List (Nat×PV)) (B:Nat→List (Nat×Box))
  (hκ:Qi2 θ=true) (hall:(θ.all fun p=>(lkp (B 0) p.1).isSome)=true) (hv:Qac θ vs0 vs) (hb:Qd9 θ bs1 (B 0)) (hvN:Qac (Qki N) vs vs)
  (stop:Nat) (jump:Exit) (hjump:stop<outs.length→(Qjo jump).isSome=true) (hBN: ∀k,k≤outs.length→k≤stop+1→ ∀b∈N,(lkp (B k) b).isSome=true)
  (hps: ∀(k:Nat) (args:List PV),outs[k]? =some args→args.length=ps.size) (hpt:(ps.toList.all fun t=>Nat.blt t nt)=true)
  (hbody: ∀(k:Nat) (args:List PV),outs[k]? =some args→k≤stop→Vwp P nt assign (vthen (fun s=>(∀b∈N,(s.box b).isSome=true)∧Vwp P nt body (vround B stop jump k) s) (fun _ _=>False)) (St.ofG (pvars ps.toList args vs) (B k) [[]] (some (0,0,[]))))
  -- names outside, by names inside
  (θF:List (Nat×Nat)) (vsF:List (Nat×PV)) (bsF:List (Nat×Box)) (hκF:Qi2 θF=true) (hallF:(θF.all fun p=>(lkp bsF p.1).isSome&&(Nat.blt p.1 LENT||(N.contains p.2&&lkp θ p.2==some p.1)))=true) (hvF:Qac θF vs vsF)
  (hbF:Qd9 θF (B (min outs.length (stop+1))) bsF)
  (hQ:Q (if outs.length≤stop then .normal else jump) (St.ofG vsF bsF o0 none)):Vwp P nt (.rangeFunc g ps assign body) Q (St.ofG vs0 bs0 o0 none):=by
 rintro C rfl rfl rd a w ⟨ρ,im00,h00⟩;have hyl:C.yl=none:=h00.root.yl.symm;have hrd:rd.rd=none:=rd.ok hyl;rw [hrd]
 -- the captured values
 have hgv:=Qs2 h00 hg;obtain⟨ua,ub,hgu,hua,hub⟩:=hgv.fn_inv;cases hua.nil_inv;obtain⟨im,g1,r1⟩:=Qfa h00 (Qet _) hub he;have h:=g1.rel;rw [he1]at h;have hstep0:=g1;obtain⟨hcal,hs⟩:=hs;obtain⟨fnf,hff,hfb,hfn⟩: ∃fn,C.P.funcs[f]? =some fn∧fn.body.isSome=true∧(fn.name== "runtime.NumGoroutine")=false:=by
  unfold callable at hcal;split at hcal
  ·rename_i fn e;simp only [Bool.and_eq_true,Bool.not_eq_true']at hcal;exact⟨fn,e,hcal.1,hcal.2⟩
  ·cases hcal
 have hlaid:=h.laid;obtain⟨n,hn⟩: ∃n,n=w.heap.size:=⟨_,rfl⟩;obtain⟨W1,hW1⟩: ∃W1:Loop→World,W1=fun r=>(w.alloc (.deferred (some []))).alloc (.loop r):=⟨_,rfl⟩;have hpt': ∀t∈ps.toList,t<C.nt:=fun t ht=>by
  have:=List.all_eq_true.1 hpt t ht;simpa [Nat.blt_eq]using this
 refine wpIn_rangeFunc ?_;intro fn hfnF;obtain⟨rec,hrec⟩: ∃rec:LoopState→Option Code→Loop,rec=fun st pe=>{state:=st,pending:=pe,fn,tmps:=a.tmps,params:=ps,assign,body,defers:=n}:=⟨_,rfl⟩;obtain⟨recAt,hrecAt⟩: ∃recAt:Nat→Loop,recAt=fun k=>if k≤stop then rec .ready none else rec .done (Qjo jump):=⟨_,rfl⟩;obtain⟨S,hS⟩: ∃S:Nat→St,S=fun k=>St.ofG vs (B k) [[]] (some (0,0,[])):=⟨_,rfl⟩;have hr0:recAt 0=rec .ready none:=by rw [hrecAt];simp
 have hsz1:(W1 (rec .ready none)).heap.size=n+2:=by rw [hW1,hn];simp
 have hL1:(W1 (rec .ready none)).heap[n+1]? =some (.loop (rec .ready none)):=by
  rw [hW1,hn];have:=World.alloc_heap_new (w.alloc (.deferred (some []))) (.loop (rec .ready none));rwa [World.size_alloc]at this
 have hK1:(W1 (rec .ready none)).heap[n]? =some (.deferred (some [])):=by
  rw [hW1,hn];exact(Below.heap_alloc _ _ _ (by simp)).trans (World.alloc_heap_new w _)
 have hb1:Below n w (W1 (rec .ready none)):=by rw [hW1,hn];exact((Below.refl _ w).alloc (Nat.le_refl _) _).alloc (by simp) _
 generalize hWW:W1 (rec .ready none)=W0 at hsz1 hL1 hK1 hb1;have hF0:C.F≤n:=by rw [hn];exact hlaid.2.1
 refine⟨n+1,[{target:= .collected n,args:= #[]}],W0,{target:= .fn (.func f) ub.toArray,args:= #[.func (.yield (n+1)) #[] #[]]},W0,f,
  #[.func (.yield (n+1)) #[] #[]]++ub.toArray,W0,?_,?_,fun _ _=>trivial,?_,fun h=>by simp [FW,Fence.wide]at h,?_⟩
 ·rw [←hWW,hW1,hrec,hn];exact run_enterLoop_outer _ _ _ _ _
 ·simp only [resolve,hgu];simp [go_sem]
 ·have hn': ¬fnf.name= "runtime.NumGoroutine" :=by simpa using hfn
  have hbn: ¬fnf.body=none:=by intro e;rw [e]at hfb;cases hfb
  simp [invoke,callFunc,hff,hn',hbn]
 ·-- the iterator
  refine Qhj ((hs (n+1) stop W0 im ub C.F (by omega) (hlaid.1.keep fun k hk=>hb1.block k (by omega)) (fun k=>Own ρ k∨n≤k) (fun k hk=>hk.elim (hlaid.2.2 k) fun x=>by omega)
   (fun own imc o W=> ∃ρb imb,Going C.nt w ρ im a.tmps (S o.length) (recAt o.length) own imc W ρb imb∧o.length≤outs.length∧o.length≤stop+1∧ ∀b∈N,ρb b=rhoC θ ρ b)
   (fun o s ⟨ρb,imb,G,x,y⟩=>⟨ρb,imb,G.step' s,x,y⟩) (fun o D hD hd ⟨ρb,imb,G,x,y⟩=>⟨ρb,imb,G.unmark (by omega) hd,x,y⟩) ?_ (r1.mono (fun g j x=>(Keeps.of_below (hn▸hb1) h.imc).cell g j x) fun _ _ x=>x)
   (fun g j x=>by rw [(Keeps.of_below (hn▸hb1) h.imc).cell g j x];exact h.imc g j x) ?_).mono ?_)
  ·-- one round
   rintro ρc imc W o args us hstop houts ⟨ρb,imb,G,hlo,hls,hNk⟩ hownlt hcells hrep hsz;subst hn;have hrk:recAt o.length=rec .ready none:=by rw [hrecAt];simp [hstop]
   have hl:W.heap[w.heap.size+1]? =some (.loop (rec .ready none)):=by rw [←hrk];exact G.recd
   have hlen:ps.toList.length=args.length:=by have:=hps _ _ houts;simp;omega
   have hy:=run_yield (P:=C.P) (args:=us.toArray) hl (by rw [hrec];have:=hrep.length;have:=hps _ _ houts;simp;omega);refine⟨fn,_,assign,body,by rw [hrec]at hy;rw [hy],?_⟩;have hlt:w.heap.size+1<W.heap.size:=(Array.getElem?_eq_some_iff.1 hl).1;have raw0:Raw C.nt (S o.length) a.tmps W ρb (fun g j=>imb g j∨imc g j):=by
    refine G.raw.grow (im':=fun g j=>imb g j∨imc g j) (fun _ _ x=> .inl x) ?_;rintro g j (x|x)
    ·exact .inl x
    ·exact(G.sub g j x).imp id fun y=>⟨hcells g j x,y⟩
   have hownF: ∀g,Own ρb g→C.F≤g:=fun g x=>(G.step.own g x).elim (hlaid.2.2 g) fun y=>by omega
   have hlayW:Laid C.P C.F W:=hlaid.1.keep fun k hk=>G.step.lent.block k (by omega) fun x=>by have:=hlaid.2.2 k x;omega
   have rel1:=raw0.rel (P:=C.P) (F:=C.F) (by omega) hlayW hownF (by rw [hS];rfl) (by rw [hS];rfl);rw [hS]at rel1;have hrep1:RepL W (fun g j=>imb g j∨imc g j) args us:=hrep.mono (fun _ _ _=>rfl) (fun g j x=>Or.inr x);have rel2:=Rel'.pvars (C:=Qhz C.P C.nt W (fun g j=>imb g j∨imc g j) ρb C.F (by omega) hlayW hownF) (ps:=ps.toList) hlen hrep1 hpt' rel1;have hbd:=hbody o.length args houts hstop (Qhz C.P C.nt W (fun g j=>imb g j∨imc g j) ρb C.F (by omega) hlayW hownF) rfl rfl ⟨some (w.heap.size+1),fun e=>by simp [Qhz]at e⟩ _ _ ⟨ρb,_,rel2⟩;have htm:(ps.zip us.toArray).foldl (fun tmps x=>tmps.setIfInBounds x.1 x.2) a.tmps=(ps.toList.zip us).foldl (fun t p=>t.setIfInBounds p.1 p.2) a.tmps:=by
    rw [←Array.foldl_toList,Array.toList_zip]
   refine roundIn_of_wpIn (F:=Fence.wide) trivial ?_;refine wpIn_mono (Q:=fun e a' w'=> ∃st',vthen (fun s=>(∀b∈N,(s.box b).isSome=true)∧Vwp C.P C.nt body (vround B stop jump o.length) s) (fun _ _=>False) e st'∧Rel (Qhz C.P C.nt W (fun g j=>imb g j∨imc g j) ρb C.F (by omega) hlayW hownF) st' a' w') (by have hb2:=hbd;rw [←htm]at hb2;exact hb2) ?_;rintro e1 a1 W1 ⟨s1,hq1,hr1⟩;have hen:e1= .normal:=by cases e1<;>first|rfl|exact hq1.elim
   subst hen;obtain⟨hN1,hbd2⟩:=hq1;obtain⟨ρ1,im1,h1⟩:=hr1;have hno1: ¬Own ρb (w.heap.size+1):=fun x=>by rcases G.raw.blk x with⟨c,e,y⟩|⟨c,e,y⟩<;>(rw [hl]at y;cases y)
   have hno0: ¬Own ρb w.heap.size:=fun x=>by rcases G.raw.blk x with⟨c,e,y⟩|⟨c,e,y⟩<;>(rw [G.mark]at y;cases y)
   have hlentA:Lent (Own ρb) W.heap.size W W1:=h1.root.below;have hkeepA:Keeps (fun g j=>imb g j∨imc g j) W W1:=h1.root.keep;have hszA:=hlentA.size;have hownA: ∀g,Own ρ1 g→W.heap.size≤g∨Own ρb g:=fun g x=>(h1.ownB x).1;have hlA:W1.heap[w.heap.size+1]? =some (.loop (rec .ready none)):=(hlentA.block _ hlt hno1).trans hl;change∃w₂,_∧_;refine⟨_,run_beginRound hlA (by rw [hrec]),?_⟩;obtain⟨W1',hW1'⟩: ∃W1',W1'=W1.putObj (w.heap.size+1) (.loop {rec .ready none with state:= .busy}):=⟨_,rfl⟩;have hsz1':W1'.heap.size=W1.heap.size:=by rw [hW1'];simp
   have hl1:W1'.heap[w.heap.size+1]? =some (.loop {rec .ready none with state:= .busy}):=by rw [hW1'];exact World.putObj_heap_same (by omega)
   have hoth1: ∀k,k≠w.heap.size+1→W1'.heap[k]? =W1.heap[k]? :=fun k hk=>by rw [hW1'];exact Qa9 W1 _ _ k hk
   have hkeep1: ∀im',Keeps im' W1 W1':=fun im'=>by rw [hW1'];exact Qcc hlA
   rw [←hW1'];have raw1:Raw C.nt s1 a1.tmps W1' ρ1 im1:=by
    rw [hW1'];exact h1.raw.putLoop hlA
   have hownF1: ∀g,Own ρ1 g→C.F≤g:=fun g x=>(hownA g x).elim (fun y=>by omega) (hownF g);have hlay1:Laid C.P C.F W1':=hlayW.keep fun k hk=>by
    rw [hoth1 k (by omega)];exact hlentA.block k (by omega) fun x=>by
     rcases G.step.own k x with y|y
     ·have:=hlaid.2.2 k y;omega
     ·omega
   have hd1:a1.defers=[]:=h1.dfr.1 ⟨by simp [Qhz],rfl⟩;have ha1:a1={tmps:=a1.tmps,defers:=[]}:=by cases a1;simp_all
   have rel3:=raw1.rel (P:=C.P) (F:=C.F) (by omega) hlay1 hownF1 h1.root.ghost h1.root.yl;have hbd3:=hbd2 (Qhz C.P C.nt W1' im1 ρ1 C.F (by omega) hlay1 hownF1) rfl rfl ⟨some (w.heap.size+1),fun e=>by simp [Qhz]at e⟩ _ _ ⟨ρ1,_,rel3⟩;rw [←ha1]at hbd3;refine wpIn_mono (Q:=fun e a' w'=> ∃st',vround B stop jump o.length e st'∧Rel (Qhz C.P C.nt W1' im1 ρ1 C.F (by omega) hlay1 hownF1) st' a' w') hbd3 ?_;rintro e a3 W3 ⟨s,hq,hr⟩;have fin: ∀jp:Option Code,Le s (St.ofG [] (B (o.length+1)) [[]] (some (0,0,[])))→jp.isNone=decide (o.length<stop)→rec (if jp.isNone then .ready else .done) jp=recAt (o.length+1)→
     ∃v w',(Instr.endRound (w.heap.size+1) jp).run C.P W3= .ok v w'∧(Ending.returned v= .returned (.bool (decide (o.length<stop)))∧Turn (fun k=>Own ρ k∨w.heap.size≤k) W0.heap.size ρc imc W w'∧
      ∃ρb imb,Going C.nt w ρ im a.tmps (S (o++[args]).length) (recAt (o++[args]).length) (Own ρc) imc w' ρb imb∧(o++[args]).length≤outs.length∧(o++[args]).length≤stop+1∧ ∀b∈N,ρb b=rhoC θ ρ b):=by
    intro jp hle hjn hrec1;obtain⟨ρ3,im3,h3⟩:=hle _ _ _ hr;have hnoA: ∀k,k<W.heap.size→ ¬Own ρb k→ ¬Own ρ1 k:=fun k hk x y=>(hownA k y).elim (fun z=>by omega) x;have hlent3:Lent (Own ρ1) W1'.heap.size W1' W3:=h3.root.below;have hkeep3:Keeps im1 W1' W3:=h3.root.keep;have hl3:W3.heap[w.heap.size+1]? =some (.loop {rec .ready none with state:= .busy}):=(hlent3.block _ (by omega) (hnoA _ hlt hno1)).trans hl1;have hend:=run_endRound (P:=C.P) jp hl3;obtain⟨W4,hW4⟩: ∃W4,W4=W3.putObj (w.heap.size+1) (.loop (recAt (o.length+1))):=⟨_,rfl⟩;have hre:({({rec .ready none with state:= .busy}:Loop)with state:=if jp.isNone then .ready else .done,pending:=jp}:Loop)=recAt (o.length+1):=by rw [←hrec1,hrec]
    rw [hre,←hW4]at hend;have hoth4: ∀k,k≠w.heap.size+1→W4.heap[k]? =W3.heap[k]? :=fun k hk=>by rw [hW4];exact Qa9 W3 _ _ k hk
    have hkeep4: ∀im',Keeps im' W3 W4:=fun im'=>by rw [hW4];exact Qcc hl3
    have hsz3:W1'.heap.size≤W3.heap.size:=hlent3.size;have hsz4:W4.heap.size=W3.heap.size:=by rw [hW4];simp
    have hstay: ∀k,k<W.heap.size→k≠w.heap.size+1→ ¬Own ρb k→W4.heap[k]? =W.heap[k]? :=fun k h1 h2 h3=>(((hoth4 k h2).trans (hlent3.block k (by omega) (hnoA k h1 h3))).trans (hoth1 k h2)).trans (hlentA.block k h1 h3);have himA: ∀g j,imb g j∨imc g j→im1 g j:=h1.root.im0;have hkW3:Keeps (fun g j=>imb g j∨imc g j) W W3:=(hkeepA.trans (hkeep1 im1) himA).trans hkeep3 himA;have hkW: ∀im',(∀g j,im' g j→imb g j∨imc g j)→Keeps im' W W4:=fun im' hi=>((Keeps.refl im' W).trans hkW3 hi).trans (hkeep4 im') fun _ _ x=>x;have himb3: ∀g j,imb g j∨imc g j→im3 g j:=fun g j x=>h3.root.im0 g j (himA g j x);have him1: ∀g j,im3 g j→(imb g j∨imc g j)∨(W.heap.size≤g∨Own ρb g):=fun g j x=>by
     have hA:im1 g j→(imb g j∨imc g j)∨(W.heap.size≤g∨Own ρb g):=h1.root.im1 g j;have hB:im1 g j∨(W1'.heap.size≤g∨Own ρ1 g):=h3.root.im1 g j x;rcases hB with y|y|y
     ·exact hA y
     ·exact .inr (.inl (by omega))
     ·exact .inr (hownA g y)
    have hown3: ∀g,Own ρ3 g→W.heap.size≤g∨Own ρb g:=fun g x=>by
     have hB:W1'.heap.size≤g∨Own ρ1 g:=(h3.ownB x).1;rcases hB with y|y
     ·exact .inl (by omega)
     ·exact hownA g y
    have hlenk:(o++[args]).length=o.length+1:=by simp
    have holt:o.length<outs.length:=(List.getElem?_eq_some_iff.1 houts).1;have hN3: ∀b∈N,ρ3 b=ρb b:=fun b hm=>by
     have hbN:LENT≤b:=by have:=List.all_eq_true.1 hN b hm;exact Nat.le_of_ble_eq_true this
     have hBk:=hBN o.length (by omega) (by omega) b hm;have hB3:=hBN (o.length+1) (by omega) (by omega) b hm;have hb1:=hN1 b hm;cases e:ρb b with
     |none=>
      have z:=(G.raw.rho b).1 e;rw [hS]at z;simp only [Qhy]at z;rw [z]at hBk;cases hBk
     |some x=>
      cases hx3:ρ3 b with
      |none=>
       have z:=(h3.rho b).1 hx3;simp only [Qhy]at z;rw [z]at hB3;cases hB3
      |some x'=>
       cases hx1:ρ1 b with
       |none=>
        have z:=(h1.rho b).1 hx1;rw [z]at hb1;cases hb1
       |some x1=>
        have e1:=h1.root.rho0 b x x1 hbN e hx1;have e2:=h3.root.rho0 b x1 x' hbN hx1 hx3;rw [e2,e1]
    have hA:Lent (fun k=>Own ρb k∨k=w.heap.size+1) W.heap.size W W4:=
     ⟨by have e:=hlent3.os;rw [hW1']at e;rw [hW4];exact Eq.trans e hlentA.os,by have e:=hlent3.tape;rw [hW1']at e;rw [hW4];exact Eq.trans e hlentA.tape,by have e:=hlent3.output;rw [hW1']at e;rw [hW4];exact Eq.trans e hlentA.output,by omega,
      fun k hk hx=>hstay k hk (fun e=>hx (.inr e)) fun e=>hx (.inl e)⟩
    refine⟨_,W4,hend,by rw [hjn],⟨hA.mono (by omega) fun k hk x=>x.elim (fun y=>G.step.own k y) fun y=> .inr (by omega),hkW imc (fun _ _ x=> .inr x),fun g hg=>hstay g (hownlt g hg) (by have:=(G.apart g hg).1;omega) (G.apart g hg).2⟩,ρ3,im3,?_,by omega,by omega,fun b hb=>(hN3 b hb).trans (hNk b hb)⟩;rw [hlenk];refine⟨⟨G.step.lent.trans (hA.mono G.step.lent.size fun k hk x=>x.elim (fun y=>(G.step.own k y).elim id fun z=>by omega) fun y=>by omega),G.step.keep.trans (hkW imb fun _ _ x=> .inl x) G.step.mono,fun g x=>(hown3 g x).elim (fun y=> .inr (by omega)) (G.step.own g),
     fun g j x=>himb3 g j (.inl (G.step.mono g j x)),?_⟩,?_,fun g j x=> .inl (himb3 g j (.inr x)),G.imcn,?_,?_,?_,?_⟩
    ·intro g j x;rcases him1 g j x with(y|y)|y|y
     ·exact G.step.imn g j y
     ·exact G.imcn g j y
     ·exact .inr (.inr (by omega))
     ·exact .inr (G.step.own g y)
    ·have raw3:=h3.raw;rw [hS,hW4];refine Raw.putLoop ⟨G.raw.nt,raw3.imc,?_,raw3.rho,raw3.box,raw3.inj⟩ hl3;intro t v hvt;obtain⟨x,e1,e2⟩:=Qfx hvN hvt;have hvt':lkp vs t=some v:=hvt;rw [hvt']at e1;cases e1;have hLR:=G.raw.var t v (by rw [hS];exact hvt);have hL2:=Qhk (ρ':=fun b=>if b∈N then ρb b else none) (fun b b0 x e3 e4=>by obtain⟨rfl,hm⟩:=Zdy e3;simp [hm,e4]) e2 hLR;refine hL2.mono ((Keeps.refl imb W).trans hkW3 fun _ _ x=> .inl x) (fun g j x=>himb3 g j (.inl x)) ?_;intro b x e
     replace e:(if b∈N then ρb b else none)=some x:=e
     split at e
     ·rename_i hm;have hB3:=hBN (o.length+1) (by omega) (by omega) b hm;cases hx3:ρ3 b with
      |none=>
       have z:=(h3.rho b).1 hx3;simp only [Qhy]at z;rw [z]at hB3;cases hB3
      |some x'=>
       have hbN:LENT≤b:=by have:=List.all_eq_true.1 hN b hm;exact Nat.le_of_ble_eq_true this
       have hb1:=hN1 b hm;cases hx1:ρ1 b with
       |none=>
        have z:=(h1.rho b).1 hx1;rw [z]at hb1;cases hb1
       |some x1=>
        have e1:=h1.root.rho0 b x x1 hbN e hx1;have e2:=h3.root.rho0 b x1 x' hbN hx1 hx3;rw [e2,e1]
     ·cases e
    ·exact fun g x=>⟨(G.apart g x).1,fun y=>(hown3 g y).elim (fun z=>by have:=hownlt g x;omega) (G.apart g x).2⟩
    ·intro g j x;rcases him1 g j x with(y|y)|y|y
     ·exact G.out g j y
     ·exact .inl y
     ·exact .inr fun z=>by have:=hownlt g z;omega
     ·exact .inr fun z=>(G.apart g z).2 y
    ·rw [hW4];exact World.putObj_heap_same (Array.getElem?_eq_some_iff.1 hl3).1
    ·exact(hstay _ (by omega) (by omega) hno0).trans G.mark
   cases e with
   |normal=>
    obtain⟨hk,hle⟩:=hq;obtain⟨v,w',e1,e2⟩:=fin none hle (by simp [hk]) (by rw [hrecAt];exact(if_pos (by omega)).symm);exact⟨v,w',e1,e2⟩
   |ret=>
    obtain⟨hk,hj,hle⟩:=hq;obtain⟨v,w',e1,e2⟩:=fin (some .ret) hle (by simp;omega) (by rw [hrecAt,hj];exact(if_neg (by omega)).symm);exact⟨v,w',e1,e2⟩
   |exit id=>
    obtain⟨hk,hj,hle⟩:=hq;obtain⟨v,w',e1,e2⟩:=fin (some (.exit id)) hle (by simp;omega) (by rw [hrecAt,hj];exact(if_neg (by omega)).symm);exact⟨v,w',e1,e2⟩
   |_=>exact hq.elim
  ·-- before the first round
   have hkp:Keeps im w W0:=Keeps.of_below (hn▸hb1) h.imc;have raw0:=(h.raw.world hkp fun g hg=>hb1.block g (by rw [hn];exact(h.ownB hg).2)).ren (o':=[[]]) (y':=some (0,0,[])) hκ hall hv hb;refine⟨rhoC θ ρ,im,?_,by simp,by simp,fun _ _=>rfl⟩;simp only [List.length_nil];rw [hr0,hS];subst hn;exact⟨⟨.of_below hb1,hkp,fun g x=> .inl (Qlw x),fun _ _ x=>x,fun _ _ x=> .inl x⟩,raw0,fun _ _ x=> .inl x,fun _ _ x=> .inl x,fun _ x=>x.elim,fun _ _ x=> .inl x,hL1,hK1⟩
  ·-- behind the iterator
   rintro e W2 ⟨v,own,im',rfl,⟨ρb,imb,G,hlo,hls,hNk⟩,_⟩;have hK:(outs.take (stop+1)).length=min outs.length (stop+1):=by simp [Nat.min_comm]
   rw [hK]at G;subst hn;have hl:=G.recd;have hend:=run_endLoop (P:=C.P) hl (by rw [hrecAt];simp only;split<;>(rw [hrec];simp));obtain⟨W5,hW5⟩: ∃W5,W5=W2.putObj (w.heap.size+1) (.loop {recAt (min outs.length (stop+1))with state:= .exhausted}):=⟨_,rfl⟩;rw [←hW5]at hend;refine⟨_,W5,hend,?_⟩;have hkp: ∀im',Keeps im' W2 W5:=fun im'=>by rw [hW5];exact Qcc hl
   have hsz5:W5.heap.size=W2.heap.size:=by rw [hW5];simp
   have hoth: ∀k,k≠w.heap.size+1→W5.heap[k]? =W2.heap[k]? :=fun k hk=>by rw [hW5];exact Qa9 W2 _ _ k hk
   have hallF':(θF.all fun p=>(lkp bsF p.1).isSome)=true:=by
    rw [List.all_eq_true]at hallF ⊢;intro p hp;have:=hallF p hp;simp only [Bool.and_eq_true]at this;exact this.1
   have rawF:Raw C.nt (St.ofG vsF bsF o0 none) a.tmps W5 (rhoC θF ρb) imb:=by
    have r0:=G.raw;rw [hS]at r0;have r5:=r0.putLoop (r':={recAt (min outs.length (stop+1))with state:= .exhausted}) hl;rw [←hW5]at r5;exact r5.ren hκF hallF' hvF hbF
   have stepF:Step ρ im w (rhoC θF ρb) imb W5:=by
    refine⟨?_,G.step.keep.trans (hkp imb) G.step.mono,fun g x=>G.step.own g (Qlw x),G.step.mono,G.step.imn⟩;have e:=G.step.lent;exact⟨by rw [hW5];exact e.os,by rw [hW5];exact e.tape,by rw [hW5];exact e.output,by rw [hsz5];exact e.size,fun k hk hx=>(hoth k (by omega)).trans (e.block k hk hx)⟩
   have hroot:=h.step stepF fun b x x' hb h0 hx'=>by
    simp only [rhoC]at hx';cases hb0:lkp θF b with
    |none=>rw [hb0]at hx';cases hx'
    |some b0=>
     rw [hb0]at hx';have:=List.all_eq_true.1 hallF _ (Qce hb0);simp only [Bool.and_eq_true,Bool.or_eq_true,List.contains_iff_mem,beq_iff_eq]at this;rcases this.2 with q|⟨q1,q2⟩
     ·have h2:b+1≤LENT:=Nat.le_of_ble_eq_true q;omega
     ·have e1:=hNk b0 q1;simp only [rhoC,q2]at e1;simp only [Option.bind_some]at e1 hx';rw [e1]at hx';exact h.root.rho0 b x x' hb h0 hx'
   have hrel:Rel C (St.ofG vsF bsF o0 none) {a with defers:={target:= .collected w.heap.size,args:= #[]}::a.defers} W5:=by
    refine⟨rhoC θF ρb,imb,hroot,rawF.nt,?_,rawF.imc,rawF.var,rawF.rho,fun b x D hx hD=>(rawF.box b x D hx hD).own fun g e=> ?_,rawF.inj⟩
    ·obtain⟨_,Ds,hd1,hd2,hd3⟩:=h.dfr;refine⟨fun x=>absurd hyl x.1,w.heap.size::Ds,by simp [hd1],?_,?_⟩
     ·refine List.nodup_cons.2 ⟨fun hm=> ?_,hd2⟩;have:=(Array.getElem?_eq_some_iff.1 (hd3 _ hm).2).1;omega
     ·intro D hD;rcases List.mem_cons.1 hD with rfl|hD
      ·exact⟨h.root.below.size,(hoth _ (by omega)).trans G.mark⟩
      ·exact⟨(hd3 D hD).1,stepF.keep.oth D _ (hd3 D hD).2 rfl⟩
    ·have:Own (rhoC θF ρb) g:=⟨b,by rw [hx,e]⟩;rcases stepF.own g this with y|y
     ·exact(h.ownB y).1
     ·exact .inl (Nat.le_trans h.root.below.size y)
   have hpend:(recAt (min outs.length (stop+1))).pending=if outs.length≤stop then none else Qjo jump:=by
    rw [hrecAt];simp only;by_cases hc:outs.length≤stop
    ·rw [if_pos (by omega),if_pos hc,hrec]
    ·rw [if_neg (by omega),if_neg hc,hrec]
   rw [hpend];by_cases hc:outs.length≤stop
   ·rw [if_pos hc]at hQ ⊢;exact⟨_,hQ,hrel⟩
   ·rw [if_neg hc]at hQ ⊢;have hj:=hjump (by omega);cases jump with
    |ret=>exact wpIn_ret ⟨_,hQ,hrel⟩
    |exit id=>exact wpIn_exit ⟨_,hQ,hrel⟩
    |_=>cases hj
theorem Qnx {P:Program} {tb:Tab} {f:FuncId} {fn:Func} {c:Code} {cap:List PV} {outs:List (List PV)} (nt:Nat) (ks:List Nat) (hm:P.follows .mixedOrders=true) (hf:P.funcs[f]? =some fn) (hb:fn.body=some c)
  (hc:callable P f=true) (hnt:fn.ntmps=nt) (hrs:fn.results.toList=[]) (hn:Nat.ble (cap.length+1) nt=true)
  (h: ∀l stop,go P tb nt ks [.code c] (Qh5 outs stop) (St.ofG (Qcf 0 (.yld l stop::cap)) [] [] (some (l,stop,outs)))):Qf3 P f cap outs:=
 Zdx nt hf hb hc hnt hrs hn fun l stop=>Qb5 (tb:=tb) (ks:=ks) hm c _ _ (by
  have h:=h l stop;simp only [go]at h;have:(fun e s=>gleave P tb nt ks [] (Qh5 outs stop) e s)=Qh5 outs stop:=by funext e s;simp only [gleave]
  rwa [this]at h)
theorem Qzi {P:Program} {tb:Tab} {nt:Nat} {ks:List Nat} {K:List It} {Q:Exit→St→Prop} (hm:P.follows .mixedOrders=true) {vs0:List (Nat×PV)} {bs0:List (Nat×Box)} {o0:List (List PV)} {g:Operand} {ps:Array Tmp} {assign body:Code} {f:FuncId} {cap xs:List PV} {es:List Eff} {la:Acc} {outs:List (List PV)}
  (hs:Qf3 P f xs outs) (hg:(St.ofG vs0 bs0 o0 none).ev g=some (.fn f [] cap)) (he:Qev cap (lkp bs0)=some ((xs,es),la))
  (bs1:List (Nat×Box)) (he1:Qan es (St.ofG vs0 bs0 o0 none)=St.ofG vs0 bs1 o0 none)
  (θ:List (Nat×Nat)) (N:List Nat) (hN:(N.all fun b=>Nat.ble LENT b)=true) (vs:List (Nat×PV)) (B:Nat→List (Nat×Box))
  (hκ:Qi2 θ=true) (hall:(θ.all fun p=>(lkp (B 0) p.1).isSome)=true) (hv:Qac θ vs0 vs) (hb:Qd9 θ bs1 (B 0)) (hvN:Qac (Qki N) vs vs)
  (stop:Nat) (jump:Exit) (hjump:stop<outs.length→(Qjo jump).isSome=true) (hBN: ∀k,k≤outs.length→k≤stop+1→ ∀b∈N,(lkp (B k) b).isSome=true)
  (hps: ∀(k:Nat) (args:List PV),outs[k]? =some args→args.length=ps.size) (hpt:(ps.toList.all fun t=>Nat.blt t nt)=true)
  (hbody: ∀(k:Nat) (args:List PV),outs[k]? =some args→k≤stop→go P tb nt ks [.code assign,.again fun s=>(∀b∈N,(s.box b).isSome=true)∧go P tb nt ks [.code body] (vround B stop jump k) s] (fun _ _=>False) (St.ofG (pvars ps.toList args vs) (B k) [[]] (some (0,0,[]))))
  (θF:List (Nat×Nat)) (vsF:List (Nat×PV)) (bsF:List (Nat×Box)) (hκF:Qi2 θF=true) (hallF:(θF.all fun p=>(lkp bsF p.1).isSome&&(Nat.blt p.1 LENT||(N.contains p.2&&lkp θ p.2==some p.1)))=true) (hvF:Qac θF vs vsF)
  (hbF:Qd9 θF (B (min outs.length (stop+1))) bsF)
  (hQ1:outs.length≤stop→go P tb nt ks K Q (St.ofG vsF bsF o0 none)) (hQ2:stop<outs.length→gleave P tb nt ks K Q jump (St.ofG vsF bsF o0 none)):go P tb nt ks (.code (.rangeFunc g ps assign body)::K) Q (St.ofG vs0 bs0 o0 none):=by
 simp only [go,vx];refine Qrq hg he hs bs1 he1 θ N hN vs B hκ hall hv hb hvN stop jump hjump hBN hps hpt (fun j args h1 h2=> ?_) θF vsF bsF hκF hallF hvF hbF ?_
 ·have h:=hbody j args h1 h2;simp only [go]at h;refine Qdt (Qb5 hm _ _ _ h) ?_;intro e s q;cases e with
  |normal=>
   simp only [gleave]at q;refine⟨q.1,Qb5 (tb:=tb) (ks:=ks) hm _ _ _ ?_⟩;have h2:=q.2;exact h2
  |_=>simp only [gleave]at q
 ·by_cases hl:outs.length≤stop
  ·rw [if_pos hl,Qc2];exact hQ1 hl
  ·rw [if_neg hl];exact hQ2 (by omega)
theorem Qh6 {P:Program} {tb:Tab} {nt:Nat} {ks:List Nat} {K:List It} {Q:Exit→St→Prop} (hm:P.follows .mixedOrders=true) {vs0:List (Nat×PV)} {bs0:List (Nat×Box)} {o0:List (List PV)} {g:Operand} {ps:Array Tmp} {assign body:Code} {f:FuncId} {cap xs:List PV} {es:List Eff} {la:Acc} {outs:List (List PV)}
  (hs:Qf3 P f xs outs) (hg:(St.ofG vs0 bs0 o0 none).ev g=some (.fn f [] cap)) (he:Qev cap (lkp bs0)=some ((xs,es),la))
  (bs1:List (Nat×Box)) (he1:Qan es (St.ofG vs0 bs0 o0 none)=St.ofG vs0 bs1 o0 none)
  (θ:List (Nat×Nat)) (N:List Nat) (hN:(N.all fun b=>Nat.ble LENT b)=true) (vs:List (Nat×PV)) (B:Nat→List (Nat×Box))
  (hκ:Qi2 θ=true) (hall:(θ.all fun p=>(lkp (B 0) p.1).isSome)=true) (hv:Qac θ vs0 vs) (hb:Qaz θ bs1 (B 0)) (hvN:Qac (Qki N) vs vs)
  (stop:Nat) (jump:Exit) (hjump:stop<outs.length→(Qjo jump).isSome=true) (hBN: ∀k,k≤outs.length→k≤stop+1→ ∀b∈N,(lkp (B k) b).isSome=true)
  (hps: ∀(k:Nat) (args:List PV),outs[k]? =some args→args.length=ps.size) (hpt:(ps.toList.all fun t=>Nat.blt t nt)=true)
  (hbody: ∀(k:Nat) (args:List PV),outs[k]? =some args→k≤stop→go P tb nt ks [.code assign,.again fun s=>(∀b∈N,(s.box b).isSome=true)∧go P tb nt ks [.code body] (vround B stop jump k) s] (fun _ _=>False) (St.ofG (pvars ps.toList args vs) (B k) [[]] (some (0,0,[]))))
  (θF:List (Nat×Nat)) (vsF:List (Nat×PV)) (bsF:List (Nat×Box)) (hκF:Qi2 θF=true) (hallF:(θF.all fun p=>(lkp bsF p.1).isSome&&(Nat.blt p.1 LENT||(N.contains p.2&&lkp θ p.2==some p.1)))=true) (hvF:Qac θF vs vsF)
  (hbF:Qaz θF (B (min outs.length (stop+1))) bsF)
  (hQ1:outs.length≤stop→go P tb nt ks K Q (St.ofG vsF bsF o0 none)) (hQ2:stop<outs.length→gleave P tb nt ks K Q jump (St.ofG vsF bsF o0 none)):go P tb nt ks (.code (.rangeFunc g ps assign body)::K) Q (St.ofG vs0 bs0 o0 none):=
 Qzi hm hs hg he bs1 he1 θ N hN vs B hκ hall hv hb.toD hvN stop jump hjump hBN hps hpt hbody θF vsF bsF hκF hallF hvF hbF.toD hQ1 hQ2
theorem Z07 {P:Program} {tb:Tab} {nt:Nat} {ks:List Nat} (K:List It) (Q:Exit→St→Prop) (st:St):gleave P tb nt ks K Q .ret st=Q .ret st:=Qfe K Q st
theorem Znt {a b:Int} [Decidable (a<b)]:(if a<b then b else a)=max a b:=by split<;>omega
theorem Zdz {a b:Int} [Decidable (a<b)]:(if a<b then a else b)=min b a:=by split<;>omega
theorem Qxf {P:Program} {tb:Tab} {nt:Nat} {ks:List Nat} {ops:Array Oper} {base i:Nat} {rest:List Oper} {accs:List Acc} {draw:Bool} {k:List It} {Q:Exit→St→Prop} (vs:List (Nat×PV)) (bs:List (Nat×Box)) (o:List (List PV)) (y:Yl) (dst:Option Tmp) (n stop:Nat) (args:List PV) (l:Acc):
  gout P tb nt ks (some (.yield n stop args [],l)) ops base i dst rest accs draw k Q (St.ofG vs bs o y)=
  (yOk y n stop o args∧gops P tb nt ks ops base (i+1) rest ((l++[(YID,true)])::accs) draw k Q ((St.ofG vs bs (o++[args]) y).put dst (.bool (decide (o.length<stop))))):=by
 rw [Qpm];simp only [Qcm,List.map_nil,List.append_nil];rfl
attribute [go_sem 10000] Qxf
theorem Znu (n stop n' stop':Nat) (outs o:List (List PV)) (args:List PV):yOk (some (n',stop',outs)) n stop o args=(n=n'∧stop=stop'∧o.length≤stop∧outs[o.length]? =some args):=rfl
attribute [go_sem] Znu
end Go.Vl
