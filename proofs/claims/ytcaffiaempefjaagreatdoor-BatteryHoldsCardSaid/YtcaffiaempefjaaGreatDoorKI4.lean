/-
  UYB, UYG, UYBG, UZ, KI2, KI3, KI4 (merged for the claim).
-/
import Derived.Test.YtcaffiaempefjaaGreatDoorUY
import Derived.Test.YtcaffiaempefjaaGreatDoorUV
import Derived.Test.YtcaffiaempefjaaGreatDoorDsi
import Derived.Test.YtcaffiaempefjaaGreatDoorKI1
import Derived.Shelf.Spec.TrailingZeros
set_option linter.unusedSimpArgs false
set_option linter.unusedVariables false
namespace Go.Vl
open Go.RowKit
def Qvi (B:Box):Box:={els:=[],esz:=B.esz,ety:=B.ety,fro:=0,live:=false,arr:=B.arr}
def Qo2 (P:Program) (f:FuncId) (cap:List PV) (bxs:List (Nat×Box)) (outs:List (List PV)):Prop:=
 callable P f=true∧ ∀(l stop:Nat) (w:World) (im:Im) (ρ0:Rho) (us:List Value) (F:Nat) (_hF:F≤w.heap.size) (_hlay:Laid P F w) (X:Nat→Prop) (_hXF: ∀g,X g→F≤g) (_hX: ∀g,Own ρ0 g→X g)
  (J:(Nat→Prop)→Im→List (List PV)→World→Prop)
  (_hJ: ∀{ρ im w ρ' im' w'} (o:List (List PV)),Step ρ im w ρ' im' w'→J (Own ρ) im o w→J (Own ρ') im' o w')
  (_hY: ∀{ρ:Rho} {im:Im} {w':World} (o:List (List PV)) (args:List PV) (us:List Value),o.length≤stop→outs[o.length]? =some args→J (Own ρ) im o w'→(∀g,Own ρ g→g<w'.heap.size)→
   (∀g j,im g j→ ∃u,w'.cell? ⟨g,j,none⟩=some u)→RepL w' im args us→w.heap.size≤w'.heap.size→ ∃fn tmps assign body,(Instr.yield l us.toArray).run P w'= .ok (.round l fn tmps assign body) w'∧
    RoundIn Fence.wide 0 P l fn tmps assign body w' fun e w''=>e= .returned (.bool (decide (o.length<stop)))∧Turn X w.heap.size ρ im w' w''∧J (Own ρ) im (o++[args]) w''),
  Boxes (Own ρ0) w im ρ0 (lkp bxs)→LRL w im ρ0 cap us→(∀g j,im g j→ ∃u,w.cell? ⟨g,j,none⟩=some u)→J (Own ρ0) im [] w→
  Calls P f (#[.func (.yield l) #[] #[]]++us.toArray) w fun e w'=> ∃v own im',e= .returned v∧J own im' (outs.take (stop+1)) w'
theorem Q4i {P:Program} {f:FuncId} {fn:Func} {c:Code} {cap:List PV} {bxs:List (Nat×Box)} {outs:List (List PV)} (nt:Nat) (hf:P.funcs[f]? =some fn) (hb:fn.body=some c) (hc:callable P f=true)
  (hnt:fn.ntmps=nt) (hrs:fn.results.toList=[]) (hn:Nat.ble (cap.length+1) nt=true)
  (h: ∀l stop,Vwp P nt c (Qik outs stop) (St.ofG (Qci 0 (.yld l stop::cap)) bxs [] (some (l,stop,outs)))):Qo2 P f cap bxs outs:=by
 subst hnt;refine⟨hc,fun l stop w im ρ0 us F hF hlay X hXF hX J hJ hY hbx hr hi hj=> ?_⟩
 let C:Ctx:={P:=P,w0:=w,F:=F,hF:=hF,lay:=hlay,im0:=im,nt:=fn.ntmps,ρ0:=ρ0,X:=X,hX:=hX,hXF:=hXF,J:=J,hJ:=hJ,yl:=some (l,stop,outs),hY:=by intro l' stop' outs' e;cases e;exact hY}
 have hrL:LRL w im ρ0 (.yld l stop::cap) (Value.func (.yield l) #[] #[]::us):= .cons _ _ _ _ (.ext _ _ (.yld l stop)) hr;have h0:Rel C (St.ofG (Qci 0 (.yld l stop::cap)) bxs [] (some (l,stop,outs))) {tmps:=(Value.func (.yield l) #[] #[]::us).toArray++Array.replicate (fn.ntmps-(Value.func (.yield l) #[] #[]::us).toArray.size) undef,defers:=[]} w:=by
  have hlen:=hrL.length;have hn':=Nat.le_of_ble_eq_true hn;refine⟨ρ0,im,⟨.refl _ _ _,Keeps.refl _ _,fun _ _ x=>x,fun _ _ x=> .inl x,fun b x x' _ h0 h1=>(by rw [show C.ρ0 b=ρ0 b from rfl,h1]at h0;cases h0;rfl),hj,rfl⟩,?_,⟨fun _=>rfl,[],rfl,by simp,by simp⟩,hi,?_,hbx.rho,fun b x B hx hB=>(hbx.box b x B hx hB).own fun g e=> .inr ⟨b,by rw [←e];exact hx⟩,hbx.inj⟩
  ·simp only [List.length_cons]at hlen;simp only [Array.size_append,List.size_toArray,Array.size_replicate,List.length_cons];show us.length+1+(fn.ntmps-(us.length+1))=fn.ntmps;omega
  ·intro t v hv;obtain⟨_,h2⟩:=Qe0 _ 0 t v hv;simp only [Nat.sub_zero]at h2;obtain⟨u,hu,hrep⟩:=hrL.get t v h2;have ht:t<(Value.func (.yield l) #[] #[]::us).length:=(List.getElem?_eq_some_iff.1 hu).1;have:((Value.func (.yield l) #[] #[]::us).toArray++Array.replicate (fn.ntmps-(Value.func (.yield l) #[] #[]::us).toArray.size) undef)[t]? =some u:=by
    rw [Array.getElem?_append_left (by simpa using ht)];simpa using hu
   simp only [Array.getD_eq_getD_getElem?,this,Option.getD_some];exact hrep
 have harr:(#[Value.func (.yield l) #[] #[]]++us.toArray)=(Value.func (.yield l) #[] #[]::us).toArray:=by apply Array.ext';simp
 rw [harr];refine(callsIn_wide (n:=0)).1 (callsIn_of_wp_marks (F:=FW none) hf hb trivial (wpIn_mono (h l stop C rfl rfl ⟨none,fun _=>rfl⟩ _ _ h0) ?_));rintro e a' w' ⟨s,hq,ρ',im',h'⟩;have hd:a'.defers=[]:=h'.dfr.1 (by simp [C]);have hgh:J (Own ρ') im' s.out w':=h'.root.ghost;have key:Qik outs stop .ret s→LeavesInM (FW none) 0 P fn a'.tmps (fun e w'=> ∃v own im',e= .returned v∧J own im' (outs.take (stop+1)) w') a'.defers .returning w':=by
  intro hq;simp only [Qik]at hq;rw [hd];refine⟨_,Qg7 (vals:=[]) (by rw [hrs];simp),_,Own ρ',im',rfl,?_⟩;rw [←hq];exact hgh
 cases e with
 |normal=>exact key hq
 |ret=>exact key hq
 |_=>exact hq.elim
theorem Boxes.world {w w':World} {im:Im} {ρ:Rho} {bx:Bx} (h:Boxes (Own ρ) w im ρ bx) (hk:Keeps im w w') (ho: ∀g,Own ρ g→w'.heap[g]? =w.heap[g]?):Boxes (Own ρ) w' im ρ bx:=
 ⟨h.rho,fun b x B hx hB=>(h.box b x B hx hB).mono hk (fun _ _ x=>x) (fun _ _ _ _ x=>x) (fun _ _ x=>x) (fun _ g hg=>ho g ⟨b,by rw [hx,hg]⟩),h.inj⟩
theorem Znq {C:Ctx} {st:St} {a:Act} {w:World} {ρ:Rho} {im:Im} {f:FuncId} {cap xs:List PV} {ub:List Value} {bxs:List (Nat×Box)} {es:List Eff} {la:Acc} {c0:Nat} {Bc:Box} (h:Rel' C st a w ρ im) (hv:LRL w im ρ cap ub)
  (hx:Qee [(LENT,c0)] [] f cap st.box=some (.callB f xs bxs es [(LENT,c0)] [],la)) (hB:st.box c0=some Bc):
  ∃im1,Rel' C (Qao es st) a w ρ im1∧Boxes (Own (rhoC [(LENT,c0)] ρ)) w im1 (rhoC [(LENT,c0)] ρ) (lkp bxs)∧LRL w im1 (rhoC [(LENT,c0)] ρ) xs ub∧True∧Bc.live=true∧(Qao es st).box c0=some Bc:=by
 obtain⟨-,im0,hi0,hb0,hr0, -⟩:=Q0m h hv hx;obtain⟨⟨ys,es0⟩,_,_,e1,e2,_⟩:=M.bind_some hx;obtain⟨bxs0,_,_,e3,e4,_⟩:=M.bind_some e2;obtain⟨_,_,_,e5,e6,_⟩:=M.bind_some e4;obtain⟨_,_,_,e7,e8,_⟩:=M.bind_some e6;obtain⟨c1,_⟩:=M.ok_some e7;obtain⟨e9,_⟩:=M.pure_some e8;cases e9;simp only [Bool.and_eq_true,List.all_eq_true,Option.isNone_iff_eq_none,Bool.not_eq_true']at c1;obtain⟨hκ,hes⟩:=c1;have hθ: ∀b b',rlk [(LENT,c0)] b=some b'→lkp [(LENT,c0)] b'=some b:=by
  intro b b' e;simp only [rlk]at e;split at e
  ·rename_i q;subst q;cases e;simp [lkp]
  ·cases e
 obtain⟨k1,k2⟩:=Qf4 e3;obtain⟨im1,g1,r1⟩:=Qu5 hθ h (fun _=>rfl) hv e1;have hbc:(Qao es0 st).box c0=some Bc:=by
  rw [Qdl es0 st fun x hx hid=> ?_]
  ·exact hB
  ·have:=(hes x hx).1;rw [hid]at this;simp [rlk]at this
 obtain⟨B1,hB1,hBl,hext,_⟩:=k2 _ (List.mem_singleton.2 rfl);have hBB:B1=Bc:=by
  have:st.box c0=some B1:=hB1;rw [hB]at this;cases this;rfl
 subst hBB;refine⟨im1,g1.rel,⟨?_,?_,?_⟩,r1,trivial,hBl,hbc⟩
 ·intro b';rw [k1 b'];unfold rhoC;cases e:lkp [(LENT,c0)] b' with
  |none=>simp
  |some b=>simpa using h.rho b
 ·intro b' x B hx hB';rw [k1 b']at hB';unfold rhoC at hx;cases e:lkp [(LENT,c0)] b' with
  |none=>rw [e]at hx;cases hx
  |some b=>
   rw [e]at hx hB';simp only [Option.bind_some]at hx hB';have hbc0:b=c0:=by
    have:=Qca e;simp only [List.mem_singleton,Prod.mk.injEq]at this;exact this.2
   rw [hbc0]at hx hB' e;rw [hB]at hB';cases hB';have hb:=g1.rel.box c0 x B1 hx hbc;cases x with
   |none=>exact hb
   |some g=>
    obtain⟨h1,h2,h3,h4,cur,us,rest,h5,h6,h7,h8,h9,h10,h11⟩:=hb;have hr:=Box.ext_rep hext h7 h8;exact⟨⟨b',by simp [rhoC,e,hx]⟩,h2,h3,h4,cur,us,rest,h5,h6,hr.toLRL,fun _=>hr,h9,h10,h11⟩
 ·intro b1 b2 g B1' B2' g1' g2' e1' e2' l1 l2;unfold rhoC at g1' g2';cases z1:lkp [(LENT,c0)] b1 with
  |none=>rw [z1]at g1';cases g1'
  |some c1=>
   cases z2:lkp [(LENT,c0)] b2 with
   |none=>rw [z2]at g2';cases g2'
   |some c2=>
    have y1:=Qca z1;have y2:=Qca z2;simp only [List.mem_singleton,Prod.mk.injEq]at y1 y2;rw [y1.1,y2.1]
theorem Zd3 {C:Ctx} {st:St} {a:Act} {w:World} {ρ:Rho} {im:Im} {c0:Nat} {B:Box} (h:Rel' C st a w ρ im) (hB:st.box c0=some B) (h1:B.els.isEmpty=false): ∃g,ρ c0=some (some g):=by
 cases hx:ρ c0 with
 |none=>rw [(h.rho c0).1 hx]at hB;cases hB
 |some x=>
  cases x with
  |none=>
   obtain⟨z,_⟩:=h.box c0 none B hx hB;rw [z]at h1;cases h1
  |some g=>exact⟨g,rfl⟩
structure GoingB (nt:Nat) (w:World) (ρ:Rho) (im:Im) (Cn:Nat→Prop) (tm:Array Value) (st:St) (r:Loop) (own:Nat→Prop) (imc:Im) (W:World) (ρb:Rho) (imb:Im):Prop where
 step:Step ρ im w ρb imb W
 raw:Raw nt st tm W ρb imb
 sub: ∀g j,imc g j→imb g j∨ ¬Own ρb g
 imcn: ∀g j,imc g j→im g j∨Own ρ g∨w.heap.size≤g
 apart: ∀g,own g→(w.heap.size+2≤g∨Cn g)∧ ¬Own ρb g
 out: ∀g j,imb g j→imc g j∨ ¬own g
 recd:W.heap[w.heap.size+1]? =some (.loop r)
 mark:W.heap[w.heap.size]? =some (.deferred (some []))
 cn: ∀g,Cn g→Own ρ g∧g<w.heap.size
theorem GoingB.apart_ne {nt:Nat} {w:World} {ρ:Rho} {im:Im} {Cn:Nat→Prop} {tm:Array Value} {st:St} {r:Loop} {own:Nat→Prop} {imc:Im} {W:World} {ρb:Rho} {imb:Im} (h:GoingB nt w ρ im Cn tm st r own imc W ρb imb) {g:Nat} (hg:own g):g≠w.heap.size+1:=by
 rcases(h.apart g hg).1 with q|q
 ·omega
 ·have:=(h.cn g q).2;omega
theorem GoingB.step' {nt:Nat} {w:World} {ρ:Rho} {im:Im} {Cn:Nat→Prop} {tm:Array Value} {st:St} {r:Loop} {ρc ρc':Rho} {imc imc':Im} {W W':World} {ρb:Rho} {imb:Im} (h:GoingB nt w ρ im Cn tm st r (Own ρc) imc W ρb imb) (s:Step ρc imc W ρc' imc' W'):
  GoingB nt w ρ im Cn tm st r (Own ρc') imc' W' ρb imb:=by
 have hsz:w.heap.size+1<W.heap.size:=(Array.getElem?_eq_some_iff.1 h.recd).1;have hown: ∀g,Own ρb g→W'.heap[g]? =W.heap[g]? :=fun g hg=>s.lent.block g (h.raw.lt hg) fun x=>(h.apart g x).2 hg;have hk:Keeps imb W W':=⟨fun g j hi=>by
  rcases h.out g j hi with x|x
  ·exact s.keep.cell g j x
  ·obtain⟨u,hu⟩:=h.raw.imc g j hi;have hlt:g<W.heap.size:=World.block_lt_of_cell? W _ hu;exact World.cell?_of_block (w:=W) (a:=⟨g,j,none⟩) (s.lent.block g hlt x),s.keep.obj,s.keep.oth⟩
 have hno: ∀k,w.heap.size≤k→k<w.heap.size+2→ ¬Own ρc k:=fun k hk1 hk x=>by
  rcases(h.apart k x).1 with q|q
  ·omega
  ·have:=(h.cn k q).2;omega
 refine⟨⟨h.step.lent.trans (s.lent.mono h.step.lent.size fun k hk x=> ?_),h.step.keep.trans hk h.step.mono,h.step.own,h.step.mono,h.step.imn⟩,h.raw.world hk hown,?_,?_,?_,?_,?_,?_,h.cn⟩
 ·rcases(h.apart k x).1 with q|q
  ·omega
  ·exact(h.cn k q).1
 ·intro g j x;rcases s.imn g j x with y|y|y
  ·exact h.sub g j y
  ·exact .inr (h.apart g y).2
  ·exact .inr fun z=>by have:=h.raw.lt z;omega
 ·intro g j x;rcases s.imn g j x with y|y|y
  ·exact h.imcn g j y
  ·rcases(h.apart g y).1 with q|q
   ·exact .inr (.inr (by omega))
   ·exact .inr (.inl (h.cn g q).1)
  ·exact .inr (.inr (by omega))
 ·intro g x;rcases s.own g x with y|y
  ·exact h.apart g y
  ·exact⟨.inl (by omega),fun z=>by have:=h.raw.lt z;omega⟩
 ·intro g j x;rcases h.out g j x with y|y
  ·exact .inl (s.mono g j y)
  ·refine .inr fun z=> ?_;rcases s.own g z with q|q
   ·exact y q
   ·obtain⟨u,hu⟩:=h.raw.imc g j x;have hlt:g<W.heap.size:=World.block_lt_of_cell? W _ hu;omega
 ·rw [s.lent.block _ hsz (hno _ (by omega) (by omega))];exact h.recd
 ·rw [s.lent.block _ (by omega) (hno _ (by omega) (by omega))];exact h.mark
theorem Zvz {C:Ctx} {st:St} {a a':Act} {w W:World} {ρ ρF:Rho} {im imb:Im} {vs:List (Nat×PV)} {bsF:List (Nat×Box)} {o:List (List PV)} {y:Yl} {c0 gc:Nat} {Bc:Box} (h:Rel' C st a w ρ im) (hr:Rel' C (St.ofG vs bsF o y) a' W ρF imb)
  (hs:Step ρ im w ρF imb W) (ho:st.out=o) (hg:ρ c0=some (some gc)) (hB:st.box c0=some Bc) (hn:lkp bsF c0=none):Rel' C (St.ofG vs ((c0,Qvi Bc)::bsF) o y) a' W (upd ρF c0 (some (some gc))) imb:=by
 have hρn:ρF c0=none:=(hr.rho c0).2 hn;have hρ: ∀b x,ρF b=some x→upd ρF c0 (some (some gc)) b=some x:=by
  intro b x e;by_cases q:b=c0
  ·subst q;rw [hρn]at e;cases e
  ·rw [Qar _ _ _ _ q];exact e
 have hown: ∀g,Own (upd ρF c0 (some (some gc))) g→Own ρF g∨g=gc:=by
  rintro g ⟨b,hb⟩;by_cases q:b=c0
  ·subst q;rw [Qaw]at hb;cases hb;exact .inr rfl
  ·rw [Qar _ _ _ _ q]at hb;exact .inl ⟨b,hb⟩
 have hgo:Own ρ gc:=⟨c0,hg⟩;have hstep:Step ρ im w (upd ρF c0 (some (some gc))) imb W:=⟨hs.lent,hs.keep,fun g x=>(hown g x).elim (hs.own g) fun e=> .inl (e▸hgo),hs.mono,hs.imn⟩;refine⟨?_,hr.nt,hr.dfr,hr.imc,fun t v hv=>(hr.var t v hv).mono (Keeps.refl _ _) (fun _ _ x=>x) hρ,?_,?_,?_⟩
 ·have r:=hr.root;refine⟨r.below,r.keep,r.im0,r.im1,fun b x x' hL h0 hx=> ?_,C.hJ o hstep (ho▸h.root.ghost),r.yl⟩;by_cases q:b=c0
  ·subst q;rw [Qaw]at hx;cases hx;exact h.root.rho0 b x _ hL h0 hg
  ·rw [Qar _ _ _ _ q]at hx;exact r.rho0 b x x' hL h0 hx
 ·intro b;by_cases q:b=c0
  ·subst q;simp [Qaw,St.ofG,lkp]
  ·have:=hr.rho b;simp only [Qar _ _ _ _ q,Qlx]at this ⊢;rw [this];simp [lkp,q]
 ·intro b x B hx hB';by_cases q:b=c0
  ·subst q;rw [Qaw]at hx;cases hx;have hB2:Qvi Bc=B:=by simpa [St.ofG,lkp]using hB'
   subst hB2;obtain⟨h1,h2,h3,h4,cur,us,rest,h5,_⟩:=h.box b _ Bc hg hB;obtain⟨cur',h6,h7⟩:=hs.keep.obj _ _ _ h5;exact⟨(h.ownB hgo).1,Nat.le_refl _,h3,fun e he=>(by cases he),cur',[],cur'.toList,h6,rfl,.nil,fun _=> .nil,fun u hu=>(by cases hu),fun j hj=>(by simp at hj),fun hl=>(by cases hl)⟩
  ·rw [Qar _ _ _ _ q]at hx;have hB2:lkp bsF b=some B:=by simpa [St.ofG,lkp,q]using hB'
   exact(hr.box b x B hx hB2).mono (Keeps.refl _ _) (fun _ _ x=>x) (fun _ _ _ _ x=>x) hρ (fun _ _ _=>rfl)
 ·intro b1 b2 g B1 B2 g1 g2 e1 e2 l1 l2;by_cases q1:b1=c0
  ·subst q1;have:Qvi Bc=B1:=by simpa [St.ofG,lkp]using e1
   subst this;cases l1
  ·by_cases q2:b2=c0
   ·subst q2;have:Qvi Bc=B2:=by simpa [St.ofG,lkp]using e2
    subst this;cases l2
   ·rw [Qar _ _ _ _ q1]at g1;rw [Qar _ _ _ _ q2]at g2;exact hr.inj b1 b2 g B1 B2 g1 g2 (by simpa [St.ofG,lkp,q1]using e1) (by simpa [St.ofG,lkp,q2]using e2) l1 l2
theorem Qph {P:Program} {nt:Nat} {Q:Exit→St→Prop} {vs0:List (Nat×PV)} {bs0:List (Nat×Box)} {o0:List (List PV)} {g:Operand} {ps:Array Tmp} {assign body:Code} {f:FuncId} {cap xs:List PV} {bxs:List (Nat×Box)} {es:List Eff} {la:Acc} {outs:List (List PV)} {c0:Nat} {Bc:Box}
  (hg:(St.ofG vs0 bs0 o0 none).ev g=some (.fn f [] cap)) (he:Qee [(LENT,c0)] [] f cap (lkp bs0)=some (.callB f xs bxs es [(LENT,c0)] [],la)) (hs:Qo2 P f xs bxs outs)
  (hBc:lkp bs0 c0=some Bc) (hB1:Bc.els.isEmpty=false)
  (bs1:List (Nat×Box)) (he1:Qao es (St.ofG vs0 bs0 o0 none)=St.ofG vs0 bs1 o0 none)
  -- names of boxes inside the loop, by names outside; those that stay
  (θ:List (Nat×Nat)) (N:List Nat) (hN:(N.all fun b=>Nat.ble LENT b)=true) (vs:List (Nat×PV)) (B:Nat→List (Nat×Box))
  (hκ:Qii θ=true) (hall:(θ.all fun p=>(lkp (B 0) p.1).isSome)=true) (hθc:(θ.all fun p=>p.2 != c0)=true) (hlv:((B 0).all fun p=>p.2.live)=true) (hv:Qae θ vs0 vs) (hbL:Qal θ bs1 (B 0)) (hvN:Qae (Qvg N) vs vs)
  (stop:Nat) (jump:Exit) (hjump:stop<outs.length→(Ql1 jump).isSome=true) (hBN: ∀k,k≤outs.length→k≤stop+1→ ∀b∈N,(lkp (B k) b).isSome=true)
  (hps: ∀(k:Nat) (args:List PV),outs[k]? =some args→args.length=ps.size) (hpt:(ps.toList.all fun t=>Nat.blt t nt)=true)
  (hbody: ∀(k:Nat) (args:List PV),outs[k]? =some args→k≤stop→Vwp P nt assign (vthen (fun s=>(∀b∈N,(s.box b).isSome=true)∧Vwp P nt body (vround B stop jump k) s) (fun _ _=>False)) (St.ofG (pvars ps.toList args vs) (B k) [[]] (some (0,0,[]))))
  -- names outside, by names inside
  (θF:List (Nat×Nat)) (vsF:List (Nat×PV)) (bsF:List (Nat×Box)) (hκF:Qii θF=true) (hallF:(θF.all fun p=>(lkp bsF p.1).isSome&&Nat.blt p.1 LENT)=true) (hvF:Qae θF vs vsF)
  (hbF:Qal θF (B (min outs.length (stop+1))) bsF) (hcF:lkp bsF c0=none)
  (hQ:Q (if outs.length≤stop then .normal else jump) (St.ofG vsF ((c0,Qvi Bc)::bsF) o0 none)):Vwp P nt (.rangeFunc g ps assign body) Q (St.ofG vs0 bs0 o0 none):=by
 rintro C rfl rfl rd a w ⟨ρ,im00,h00⟩;have hyl:C.yl=none:=h00.root.yl.symm;have hrd:rd.rd=none:=rd.ok hyl;rw [hrd]
 -- the captured values
 have hgv:=Qz9 h00 hg;obtain⟨ua,ub,hgu,hua,hub⟩:=hgv.fn_inv;cases hua.nil_inv;obtain⟨im,g1,hbx0,r1,hc0,hBcl,hBx1⟩:=Znq h00 hub he hBc;have h:=g1;rw [he1]at h hBx1;obtain⟨hcal,hs⟩:=hs;obtain⟨fnf,hff,hfb,hfn⟩: ∃fn,C.P.funcs[f]? =some fn∧fn.body.isSome=true∧(fn.name== "runtime.NumGoroutine")=false:=by
  unfold callable at hcal;split at hcal
  ·rename_i fn e;simp only [Bool.and_eq_true,Bool.not_eq_true']at hcal;exact⟨fn,e,hcal.1,hcal.2⟩
  ·cases hcal
 have hlaid:=h.laid;obtain⟨n,hn⟩: ∃n,n=w.heap.size:=⟨_,rfl⟩;obtain⟨gc,hgc⟩:=Zd3 h hBx1 hB1;obtain⟨ρ0,hρ0⟩: ∃ρ0:Rho,ρ0=rhoC [(LENT,c0)] ρ:=⟨_,rfl⟩;have hown0: ∀k,Own ρ0 k→k=gc:=by
  rw [hρ0];rintro k ⟨b,hb⟩;simp only [rhoC,lkp]at hb;split at hb
  ·simp only [Option.bind_some]at hb;rw [hgc]at hb;simpa using hb.symm
  ·cases hb
 have hownc:Own ρ gc:=⟨c0,hgc⟩;have hgcn:gc<n:=by rw [hn];exact(h.ownB hownc).2
 have hnoc: ¬Own (rhoC θ ρ) gc:=by
  rintro⟨b,hb⟩;simp only [rhoC]at hb;cases e:lkp θ b with
  |none=>rw [e]at hb;cases hb
  |some b0=>
   rw [e]at hb;simp only [Option.bind_some]at hb;have hne:=List.all_eq_true.1 hθc _ (Qca e);simp only [bne_iff_ne,ne_eq]at hne;obtain⟨D,hD⟩:=Option.isSome_iff_exists.1 (List.all_eq_true.1 hall _ (Qca e));obtain⟨b1,D1,f1,f2,f3⟩:=Qhr hbL hD;rw [e]at f1;cases f1;have hDl:=List.all_eq_true.1 hlv _ (Qca hD);exact hne (h.inj b0 c0 gc D1 Bc hb hgc f2 hBx1 (by rw [←f3.2.2.2.1];exact hDl) hBcl)
 obtain⟨W1,hW1⟩: ∃W1:Loop→World,W1=fun r=>(w.alloc (.deferred (some []))).alloc (.loop r):=⟨_,rfl⟩;have hpt': ∀t∈ps.toList,t<C.nt:=fun t ht=>by
  have:=List.all_eq_true.1 hpt t ht;simpa [Nat.blt_eq]using this
 refine wpIn_rangeFunc ?_;intro fn hfnF;obtain⟨rec,hrec⟩: ∃rec:LoopState→Option Code→Loop,rec=fun st pe=>{state:=st,pending:=pe,fn,tmps:=a.tmps,params:=ps,assign,body,defers:=n}:=⟨_,rfl⟩;obtain⟨recAt,hrecAt⟩: ∃recAt:Nat→Loop,recAt=fun k=>if k≤stop then rec .ready none else rec .done (Ql1 jump):=⟨_,rfl⟩;obtain⟨S,hS⟩: ∃S:Nat→St,S=fun k=>St.ofG vs (B k) [[]] (some (0,0,[])):=⟨_,rfl⟩;have hr0:recAt 0=rec .ready none:=by rw [hrecAt];simp
 have hsz1:(W1 (rec .ready none)).heap.size=n+2:=by rw [hW1,hn];simp
 have hL1:(W1 (rec .ready none)).heap[n+1]? =some (.loop (rec .ready none)):=by
  rw [hW1,hn];have:=World.alloc_heap_new (w.alloc (.deferred (some []))) (.loop (rec .ready none));rwa [World.size_alloc]at this
 have hK1:(W1 (rec .ready none)).heap[n]? =some (.deferred (some [])):=by
  rw [hW1,hn];exact(Below.heap_alloc _ _ _ (by simp)).trans (World.alloc_heap_new w _)
 have hb1:Below n w (W1 (rec .ready none)):=by rw [hW1,hn];exact((Below.refl _ w).alloc (Nat.le_refl _) _).alloc (by simp) _
 generalize hWW:W1 (rec .ready none)=W0 at hsz1 hL1 hK1 hb1;have hF0:C.F≤n:=by rw [hn];exact hlaid.2.1
 refine⟨n+1,[{target:= .collected n,args:= #[]}],W0,{target:= .fn (.func f) ub.toArray,args:= #[.func (.yield (n+1)) #[] #[]]},W0,f,
  #[.func (.yield (n+1)) #[] #[]]++ub.toArray,W0,?_,?_,fun _ _=>trivial,?_,fun h=>by simp [FW,Fence.wide]at h,?_⟩
 ·rw [←hWW,hW1,hrec,hn];exact run_enterLoop_outer _ _ _ _ _
 ·simp only [resolve,hgu];simp [go_sem]
 ·have hn': ¬fnf.name= "runtime.NumGoroutine" :=by simpa using hfn
  have hbn: ¬fnf.body=none:=by intro e;rw [e]at hfb;cases hfb
  simp [invoke,callFunc,hff,hn',hbn]
 ·-- the iterator
  refine Qic ((hs (n+1) stop W0 im ρ0 ub C.F (by omega) (hlaid.1.keep fun k hk=>hb1.block k (by omega)) (fun k=>Own ρ k∨n≤k) (fun k hk=>hk.elim (hlaid.2.2 k) fun x=>by omega) (fun k hk=> .inl (by rw [hown0 k hk];exact hownc))
   (fun own imc o W=> ∃ρb imb,GoingB C.nt w ρ im (· =gc) a.tmps (S o.length) (recAt o.length) own imc W ρb imb∧o.length≤outs.length∧o.length≤stop+1)
   (fun o s ⟨ρb,imb,G,x,y⟩=>⟨ρb,imb,G.step' s,x,y⟩) ?_ (hρ0▸hbx0.world (Keeps.of_below (hn▸hb1) h.imc) fun g hg=>hb1.block g (by rw [←hρ0]at hg;rw [hown0 g hg];exact hgcn)) (hρ0▸r1.mono (Keeps.of_below (hn▸hb1) h.imc) (fun _ _ x=>x) fun _ _ x=>x)
   (fun g j x=>by rw [(Keeps.of_below (hn▸hb1) h.imc).cell g j x];exact h.imc g j x) ?_).mono ?_)
  ·-- one round
   rintro ρc imc W o args us hstop houts ⟨ρb,imb,G,hlo,hls⟩ hownlt hcells hrep hsz;subst hn;have hrk:recAt o.length=rec .ready none:=by rw [hrecAt];simp [hstop]
   have hl:W.heap[w.heap.size+1]? =some (.loop (rec .ready none)):=by rw [←hrk];exact G.recd
   have hlen:ps.toList.length=args.length:=by have:=hps _ _ houts;simp;omega
   have hy:=run_yield (P:=C.P) (args:=us.toArray) hl (by rw [hrec];have:=hrep.length;have:=hps _ _ houts;simp;omega);refine⟨fn,_,assign,body,by rw [hrec]at hy;rw [hy],?_⟩;have hlt:w.heap.size+1<W.heap.size:=(Array.getElem?_eq_some_iff.1 hl).1;have raw0:Raw C.nt (S o.length) a.tmps W ρb (fun g j=>imb g j∨imc g j):=by
    refine G.raw.grow (im':=fun g j=>imb g j∨imc g j) (fun _ _ x=> .inl x) ?_;rintro g j (x|x)
    ·exact .inl x
    ·exact(G.sub g j x).imp id fun y=>⟨hcells g j x,y⟩
   have hownF: ∀g,Own ρb g→C.F≤g:=fun g x=>(G.step.own g x).elim (hlaid.2.2 g) fun y=>by omega
   have hlayW:Laid C.P C.F W:=hlaid.1.keep fun k hk=>G.step.lent.block k (by omega) fun x=>by have:=hlaid.2.2 k x;omega
   have rel1:=raw0.rel (P:=C.P) (F:=C.F) (by omega) hlayW hownF (by rw [hS];rfl) (by rw [hS];rfl);rw [hS]at rel1;have hrep1:RepL W (fun g j=>imb g j∨imc g j) args us:=hrep.mono (fun _ _ _=>rfl) (fun g j x=>Or.inr x);have rel2:=Rel'.pvars (C:=Qd0 C.P C.nt W (fun g j=>imb g j∨imc g j) ρb C.F (by omega) hlayW hownF) (ps:=ps.toList) hlen hrep1 hpt' rel1;have hbd:=hbody o.length args houts hstop (Qd0 C.P C.nt W (fun g j=>imb g j∨imc g j) ρb C.F (by omega) hlayW hownF) rfl rfl ⟨some (w.heap.size+1),fun e=>by simp [Qd0]at e⟩ _ _ ⟨ρb,_,rel2⟩;have htm:(ps.zip us.toArray).foldl (fun tmps x=>tmps.setIfInBounds x.1 x.2) a.tmps=(ps.toList.zip us).foldl (fun t p=>t.setIfInBounds p.1 p.2) a.tmps:=by
    rw [←Array.foldl_toList,Array.toList_zip]
   refine roundIn_of_wpIn (F:=Fence.wide) trivial ?_;refine wpIn_mono (Q:=fun e a' w'=> ∃st',vthen (fun s=>(∀b∈N,(s.box b).isSome=true)∧Vwp C.P C.nt body (vround B stop jump o.length) s) (fun _ _=>False) e st'∧Rel (Qd0 C.P C.nt W (fun g j=>imb g j∨imc g j) ρb C.F (by omega) hlayW hownF) st' a' w') (by have hb2:=hbd;rw [←htm]at hb2;exact hb2) ?_;rintro e1 a1 W1 ⟨s1,hq1,hr1⟩;have hen:e1= .normal:=by cases e1<;>first|rfl|exact hq1.elim
   subst hen;obtain⟨hN1,hbd2⟩:=hq1;obtain⟨ρ1,im1,h1⟩:=hr1;have hno1: ¬Own ρb (w.heap.size+1):=fun x=>by obtain⟨c,e,y⟩:=G.raw.blk x;rw [hl]at y;cases y
   have hno0: ¬Own ρb w.heap.size:=fun x=>by obtain⟨c,e,y⟩:=G.raw.blk x;rw [G.mark]at y;cases y
   have hlentA:Lent (Own ρb) W.heap.size W W1:=h1.root.below;have hkeepA:Keeps (fun g j=>imb g j∨imc g j) W W1:=h1.root.keep;have hszA:=hlentA.size;have hownA: ∀g,Own ρ1 g→W.heap.size≤g∨Own ρb g:=fun g x=>(h1.ownB x).1;have hlA:W1.heap[w.heap.size+1]? =some (.loop (rec .ready none)):=(hlentA.block _ hlt hno1).trans hl;change∃w₂,_∧_;refine⟨_,run_beginRound hlA (by rw [hrec]),?_⟩;obtain⟨W1',hW1'⟩: ∃W1',W1'=W1.putObj (w.heap.size+1) (.loop {rec .ready none with state:= .busy}):=⟨_,rfl⟩;have hsz1':W1'.heap.size=W1.heap.size:=by rw [hW1'];simp
   have hl1:W1'.heap[w.heap.size+1]? =some (.loop {rec .ready none with state:= .busy}):=by rw [hW1'];exact World.putObj_heap_same (by omega)
   have hoth1: ∀k,k≠w.heap.size+1→W1'.heap[k]? =W1.heap[k]? :=fun k hk=>by rw [hW1'];exact Qbw W1 _ _ k hk
   have hkeep1: ∀im',Keeps im' W1 W1':=fun im'=>by rw [hW1'];exact Qcz hlA
   rw [←hW1'];have raw1:Raw C.nt s1 a1.tmps W1' ρ1 im1:=by
    rw [hW1'];exact h1.raw.putLoop hlA
   have hownF1: ∀g,Own ρ1 g→C.F≤g:=fun g x=>(hownA g x).elim (fun y=>by omega) (hownF g);have hlay1:Laid C.P C.F W1':=hlayW.keep fun k hk=>by
    rw [hoth1 k (by omega)];exact hlentA.block k (by omega) fun x=>by
     rcases G.step.own k x with y|y
     ·have:=hlaid.2.2 k y;omega
     ·omega
   have hd1:a1.defers=[]:=h1.dfr.1 (by simp [Qd0]);have ha1:a1={tmps:=a1.tmps,defers:=[]}:=by cases a1;simp_all
   have rel3:=raw1.rel (P:=C.P) (F:=C.F) (by omega) hlay1 hownF1 h1.root.ghost h1.root.yl;have hbd3:=hbd2 (Qd0 C.P C.nt W1' im1 ρ1 C.F (by omega) hlay1 hownF1) rfl rfl ⟨some (w.heap.size+1),fun e=>by simp [Qd0]at e⟩ _ _ ⟨ρ1,_,rel3⟩;rw [←ha1]at hbd3;refine wpIn_mono (Q:=fun e a' w'=> ∃st',vround B stop jump o.length e st'∧Rel (Qd0 C.P C.nt W1' im1 ρ1 C.F (by omega) hlay1 hownF1) st' a' w') hbd3 ?_;rintro e a3 W3 ⟨s,hq,hr⟩;have fin: ∀jp:Option Code,Le s (St.ofG [] (B (o.length+1)) [[]] (some (0,0,[])))→jp.isNone=decide (o.length<stop)→rec (if jp.isNone then .ready else .done) jp=recAt (o.length+1)→
     ∃v w',(Instr.endRound (w.heap.size+1) jp).run C.P W3= .ok v w'∧(Ending.returned v= .returned (.bool (decide (o.length<stop)))∧Turn (fun k=>Own ρ k∨w.heap.size≤k) W0.heap.size ρc imc W w'∧
      ∃ρb imb,GoingB C.nt w ρ im (· =gc) a.tmps (S (o++[args]).length) (recAt (o++[args]).length) (Own ρc) imc w' ρb imb∧(o++[args]).length≤outs.length∧(o++[args]).length≤stop+1):=by
    intro jp hle hjn hrec1;obtain⟨ρ3,im3,h3⟩:=hle _ _ _ hr;have hnoA: ∀k,k<W.heap.size→ ¬Own ρb k→ ¬Own ρ1 k:=fun k hk x y=>(hownA k y).elim (fun z=>by omega) x;have hlent3:Lent (Own ρ1) W1'.heap.size W1' W3:=h3.root.below;have hkeep3:Keeps im1 W1' W3:=h3.root.keep;have hl3:W3.heap[w.heap.size+1]? =some (.loop {rec .ready none with state:= .busy}):=(hlent3.block _ (by omega) (hnoA _ hlt hno1)).trans hl1;have hend:=run_endRound (P:=C.P) jp hl3;obtain⟨W4,hW4⟩: ∃W4,W4=W3.putObj (w.heap.size+1) (.loop (recAt (o.length+1))):=⟨_,rfl⟩;have hre:({({rec .ready none with state:= .busy}:Loop)with state:=if jp.isNone then .ready else .done,pending:=jp}:Loop)=recAt (o.length+1):=by rw [←hrec1,hrec]
    rw [hre,←hW4]at hend;have hoth4: ∀k,k≠w.heap.size+1→W4.heap[k]? =W3.heap[k]? :=fun k hk=>by rw [hW4];exact Qbw W3 _ _ k hk
    have hkeep4: ∀im',Keeps im' W3 W4:=fun im'=>by rw [hW4];exact Qcz hl3
    have hsz3:W1'.heap.size≤W3.heap.size:=hlent3.size;have hsz4:W4.heap.size=W3.heap.size:=by rw [hW4];simp
    have hstay: ∀k,k<W.heap.size→k≠w.heap.size+1→ ¬Own ρb k→W4.heap[k]? =W.heap[k]? :=fun k h1 h2 h3=>(((hoth4 k h2).trans (hlent3.block k (by omega) (hnoA k h1 h3))).trans (hoth1 k h2)).trans (hlentA.block k h1 h3);have himA: ∀g j,imb g j∨imc g j→im1 g j:=h1.root.im0;have hkW3:Keeps (fun g j=>imb g j∨imc g j) W W3:=(hkeepA.trans (hkeep1 im1) himA).trans hkeep3 himA;have hkW: ∀im',(∀g j,im' g j→imb g j∨imc g j)→Keeps im' W W4:=fun im' hi=>((Keeps.refl im' W).trans hkW3 hi).trans (hkeep4 im') fun _ _ x=>x;have himb3: ∀g j,imb g j∨imc g j→im3 g j:=fun g j x=>h3.root.im0 g j (himA g j x);have him1: ∀g j,im3 g j→(imb g j∨imc g j)∨(W.heap.size≤g∨Own ρb g):=fun g j x=>by
     have hA:im1 g j→(imb g j∨imc g j)∨(W.heap.size≤g∨Own ρb g):=h1.root.im1 g j;have hB:im1 g j∨(W1'.heap.size≤g∨Own ρ1 g):=h3.root.im1 g j x;rcases hB with y|y|y
     ·exact hA y
     ·exact .inr (.inl (by omega))
     ·exact .inr (hownA g y)
    have hown3: ∀g,Own ρ3 g→W.heap.size≤g∨Own ρb g:=fun g x=>by
     have hB:W1'.heap.size≤g∨Own ρ1 g:=(h3.ownB x).1;rcases hB with y|y
     ·exact .inl (by omega)
     ·exact hownA g y
    have hlenk:(o++[args]).length=o.length+1:=by simp
    have holt:o.length<outs.length:=(List.getElem?_eq_some_iff.1 houts).1;have hA:Lent (fun k=>Own ρb k∨k=w.heap.size+1) W.heap.size W W4:=
     ⟨by have e:=hlent3.os;rw [hW1']at e;rw [hW4];exact Eq.trans e hlentA.os,by have e:=hlent3.tape;rw [hW1']at e;rw [hW4];exact Eq.trans e hlentA.tape,by have e:=hlent3.output;rw [hW1']at e;rw [hW4];exact Eq.trans e hlentA.output,by omega,
      fun k hk hx=>hstay k hk (fun e=>hx (.inr e)) fun e=>hx (.inl e)⟩
    refine⟨_,W4,hend,by rw [hjn],⟨hA.mono (by omega) fun k hk x=>x.elim (fun y=>G.step.own k y) fun y=> .inr (by omega),hkW imc (fun _ _ x=> .inr x),fun g hg=>hstay g (hownlt g hg) (G.apart_ne hg) (G.apart g hg).2⟩,ρ3,im3,?_,by omega,by omega⟩;rw [hlenk];refine⟨⟨G.step.lent.trans (hA.mono G.step.lent.size fun k hk x=>x.elim (fun y=>(G.step.own k y).elim id fun z=>by omega) fun y=>by omega),G.step.keep.trans (hkW imb fun _ _ x=> .inl x) G.step.mono,fun g x=>(hown3 g x).elim (fun y=> .inr (by omega)) (G.step.own g),
     fun g j x=>himb3 g j (.inl (G.step.mono g j x)),?_⟩,?_,fun g j x=> .inl (himb3 g j (.inr x)),G.imcn,?_,?_,?_,?_,G.cn⟩
    ·intro g j x;rcases him1 g j x with(y|y)|y|y
     ·exact G.step.imn g j y
     ·exact G.imcn g j y
     ·exact .inr (.inr (by omega))
     ·exact .inr (G.step.own g y)
    ·have raw3:=h3.raw;rw [hS,hW4];refine Raw.putLoop ⟨G.raw.nt,raw3.imc,?_,raw3.rho,raw3.box,raw3.inj⟩ hl3;intro t v hvt;obtain⟨x,e1,e2⟩:=Qg6 hvN hvt;have hvt':lkp vs t=some v:=hvt;rw [hvt']at e1;cases e1;have hLR:=G.raw.var t v (by rw [hS];exact hvt);have hL2:=Qid (ρ':=fun b=>if b∈N then ρb b else none) (fun b b0 x e3 e4=>by obtain⟨rfl,hm⟩:=Qvh e3;simp [hm,e4]) e2 hLR;refine hL2.mono ((Keeps.refl imb W).trans hkW3 fun _ _ x=> .inl x) (fun g j x=>himb3 g j (.inl x)) ?_;intro b x e
     replace e:(if b∈N then ρb b else none)=some x:=e
     split at e
     ·rename_i hm;have hB3:=hBN (o.length+1) (by omega) (by omega) b hm;cases hx3:ρ3 b with
      |none=>
       have z:=(h3.rho b).1 hx3;simp only [Qlx]at z;rw [z]at hB3;cases hB3
      |some x'=>
       have hbN:LENT≤b:=by have:=List.all_eq_true.1 hN b hm;exact Nat.le_of_ble_eq_true this
       have hb1:=hN1 b hm;cases hx1:ρ1 b with
       |none=>
        have z:=(h1.rho b).1 hx1;rw [z]at hb1;cases hb1
       |some x1=>
        have e1:=h1.root.rho0 b x x1 hbN e hx1;have e2:=h3.root.rho0 b x1 x' hbN hx1 hx3;rw [e2,e1]
     ·cases e
    ·exact fun g x=>⟨(G.apart g x).1,fun y=>(hown3 g y).elim (fun z=>by have:=hownlt g x;omega) (G.apart g x).2⟩
    ·intro g j x;rcases him1 g j x with(y|y)|y|y
     ·exact G.out g j y
     ·exact .inl y
     ·exact .inr fun z=>by have:=hownlt g z;omega
     ·exact .inr fun z=>(G.apart g z).2 y
    ·rw [hW4];exact World.putObj_heap_same (Array.getElem?_eq_some_iff.1 hl3).1
    ·exact(hstay _ (by omega) (by omega) hno0).trans G.mark
   cases e with
   |normal=>
    obtain⟨hk,hle⟩:=hq;obtain⟨v,w',e1,e2⟩:=fin none hle (by simp [hk]) (by rw [hrecAt];exact(if_pos (by omega)).symm);exact⟨v,w',e1,e2⟩
   |ret=>
    obtain⟨hk,hj,hle⟩:=hq;obtain⟨v,w',e1,e2⟩:=fin (some .ret) hle (by simp;omega) (by rw [hrecAt,hj];exact(if_neg (by omega)).symm);exact⟨v,w',e1,e2⟩
   |exit id=>
    obtain⟨hk,hj,hle⟩:=hq;obtain⟨v,w',e1,e2⟩:=fin (some (.exit id)) hle (by simp;omega) (by rw [hrecAt,hj];exact(if_neg (by omega)).symm);exact⟨v,w',e1,e2⟩
   |_=>exact hq.elim
  ·-- before the first round
   have hkp:Keeps im w W0:=Keeps.of_below (hn▸hb1) h.imc;have raw0:=(h.raw.world hkp fun g hg=>hb1.block g (by rw [hn];exact(h.ownB hg).2)).ren (o':=[[]]) (y':=some (0,0,[])) hκ hall hv hbL;refine⟨rhoC θ ρ,im,?_,by simp,by simp⟩;simp only [List.length_nil];rw [hr0,hS];subst hn;exact⟨⟨.of_below hb1,hkp,fun g x=> .inl (Qif x),fun _ _ x=>x,fun _ _ x=> .inl x⟩,raw0,fun _ _ x=> .inl x,fun _ _ x=> .inl x,fun g x=>by rw [hown0 g x];exact⟨.inr rfl,hnoc⟩,fun _ _ x=> .inl x,hL1,hK1,fun g x=>by subst x;exact⟨hownc,hgcn⟩⟩
  ·-- behind the iterator
   rintro e W2 ⟨v,own,im',rfl,ρb,imb,G,hlo,hls⟩;have hK:(outs.take (stop+1)).length=min outs.length (stop+1):=by simp [Nat.min_comm]
   rw [hK]at G;subst hn;have hl:=G.recd;have hend:=run_endLoop (P:=C.P) hl (by rw [hrecAt];simp only;split<;>(rw [hrec];simp));obtain⟨W5,hW5⟩: ∃W5,W5=W2.putObj (w.heap.size+1) (.loop {recAt (min outs.length (stop+1))with state:= .exhausted}):=⟨_,rfl⟩;rw [←hW5]at hend;refine⟨_,W5,hend,?_⟩;have hkp: ∀im',Keeps im' W2 W5:=fun im'=>by rw [hW5];exact Qcz hl
   have hsz5:W5.heap.size=W2.heap.size:=by rw [hW5];simp
   have hoth: ∀k,k≠w.heap.size+1→W5.heap[k]? =W2.heap[k]? :=fun k hk=>by rw [hW5];exact Qbw W2 _ _ k hk
   have hallF':(θF.all fun p=>(lkp bsF p.1).isSome)=true:=by
    rw [List.all_eq_true]at hallF ⊢;intro p hp;have:=hallF p hp;simp only [Bool.and_eq_true]at this;exact this.1
   have rawF:Raw C.nt (St.ofG vsF bsF o0 none) a.tmps W5 (rhoC θF ρb) imb:=by
    have r0:=G.raw;rw [hS]at r0;have r5:=r0.putLoop (r':={recAt (min outs.length (stop+1))with state:= .exhausted}) hl;rw [←hW5]at r5;exact r5.ren hκF hallF' hvF hbF
   have stepF:Step ρ im w (rhoC θF ρb) imb W5:=by
    refine⟨?_,G.step.keep.trans (hkp imb) G.step.mono,fun g x=>G.step.own g (Qif x),G.step.mono,G.step.imn⟩;have e:=G.step.lent;exact⟨by rw [hW5];exact e.os,by rw [hW5];exact e.tape,by rw [hW5];exact e.output,by rw [hsz5];exact e.size,fun k hk hx=>(hoth k (by omega)).trans (e.block k hk hx)⟩
   have hroot:=h.step stepF fun b x x' hb _ hx'=>by
    simp only [rhoC]at hx';cases hb0:lkp θF b with
    |none=>rw [hb0]at hx';cases hx'
    |some b0=>
     have:=List.all_eq_true.1 hallF _ (Qca hb0);simp only [Bool.and_eq_true]at this;have h2:b+1≤LENT:=Nat.le_of_ble_eq_true this.2;omega
   have hrel0:Rel' C (St.ofG vsF bsF o0 none) {a with defers:={target:= .collected w.heap.size,args:= #[]}::a.defers} W5 (rhoC θF ρb) imb:=by
    refine⟨hroot,rawF.nt,?_,rawF.imc,rawF.var,rawF.rho,fun b x D hx hD=>(rawF.box b x D hx hD).own fun g e=> ?_,rawF.inj⟩
    ·obtain⟨_,Ds,hd1,hd2,hd3⟩:=h.dfr;refine⟨fun x=>absurd hyl x,w.heap.size::Ds,by simp [hd1],?_,?_⟩
     ·refine List.nodup_cons.2 ⟨fun hm=> ?_,hd2⟩;have:=(Array.getElem?_eq_some_iff.1 (hd3 _ hm).2).1;omega
     ·intro D hD;rcases List.mem_cons.1 hD with rfl|hD
      ·exact⟨h.root.below.size,(hoth _ (by omega)).trans G.mark⟩
      ·exact⟨(hd3 D hD).1,stepF.keep.oth D _ (hd3 D hD).2 rfl⟩
    ·have:Own (rhoC θF ρb) g:=⟨b,by rw [hx,e]⟩;rcases stepF.own g this with y|y
     ·exact(h.ownB y).1
     ·exact .inl (Nat.le_trans h.root.below.size y)
   have hrel:Rel C (St.ofG vsF ((c0,Qvi Bc)::bsF) o0 none) {a with defers:={target:= .collected w.heap.size,args:= #[]}::a.defers} W5:=by
    exact⟨_,_,Zvz h hrel0 stepF rfl hgc hBx1 hcF⟩
   have hpend:(recAt (min outs.length (stop+1))).pending=if outs.length≤stop then none else Ql1 jump:=by
    rw [hrecAt];simp only;by_cases hc:outs.length≤stop
    ·rw [if_pos (by omega),if_pos hc,hrec]
    ·rw [if_neg (by omega),if_neg hc,hrec]
   rw [hpend];by_cases hc:outs.length≤stop
   ·rw [if_pos hc]at hQ ⊢;exact⟨_,hQ,hrel⟩
   ·rw [if_neg hc]at hQ ⊢;have hj:=hjump (by omega);cases jump with
    |ret=>exact wpIn_ret ⟨_,hQ,hrel⟩
    |exit id=>exact wpIn_exit ⟨_,hQ,hrel⟩
    |_=>cases hj
theorem Zd4 {P:Program} {tb:Tab} {f:FuncId} {fn:Func} {c:Code} {cap:List PV} {outs:List (List PV)} (nt:Nat) (ks:List Nat) (hm:P.follows .mixedOrders=true) (hf:P.funcs[f]? =some fn) (hb:fn.body=some c)
  (hc:callable P f=true) (hnt:fn.ntmps=nt) (hrs:fn.results.toList=[]) (hn:Nat.ble (cap.length+1) nt=true)
  (h: ∀l stop,go P tb nt ks [.code c] (Qik outs stop) (St.ofG (Qci 0 (.yld l stop::cap)) [] [] (some (l,stop,outs)))):Qvf P f cap outs:=
 Zd2 nt hf hb hc hnt hrs hn fun l stop=>Qcj (tb:=tb) (ks:=ks) hm c _ _ (by
  have h:=h l stop;simp only [go]at h;have:(fun e s=>gleave P tb nt ks [] (Qik outs stop) e s)=Qik outs stop:=by funext e s;simp only [gleave]
  rwa [this]at h)
theorem Zv0 {P:Program} {tb:Tab} {nt:Nat} {ks:List Nat} {K:List It} {Q:Exit→St→Prop} (hm:P.follows .mixedOrders=true) {vs0:List (Nat×PV)} {bs0:List (Nat×Box)} {o0:List (List PV)} {g:Operand} {ps:Array Tmp} {assign body:Code} {f:FuncId} {cap xs:List PV} {es:List Eff} {la:Acc} {outs:List (List PV)}
  (hs:Qvf P f xs outs) (hg:(St.ofG vs0 bs0 o0 none).ev g=some (.fn f [] cap)) (he:Qgg cap (lkp bs0)=some ((xs,es),la))
  (bs1:List (Nat×Box)) (he1:Qao es (St.ofG vs0 bs0 o0 none)=St.ofG vs0 bs1 o0 none)
  (θ:List (Nat×Nat)) (N:List Nat) (hN:(N.all fun b=>Nat.ble LENT b)=true) (vs:List (Nat×PV)) (B:Nat→List (Nat×Box))
  (hκ:Qii θ=true) (hall:(θ.all fun p=>(lkp (B 0) p.1).isSome)=true) (hv:Qae θ vs0 vs) (hb:Qal θ bs1 (B 0)) (hvN:Qae (Qvg N) vs vs)
  (stop:Nat) (jump:Exit) (hjump:stop<outs.length→(Ql1 jump).isSome=true) (hBN: ∀k,k≤outs.length→k≤stop+1→ ∀b∈N,(lkp (B k) b).isSome=true)
  (hps: ∀(k:Nat) (args:List PV),outs[k]? =some args→args.length=ps.size) (hpt:(ps.toList.all fun t=>Nat.blt t nt)=true)
  (hbody: ∀(k:Nat) (args:List PV),outs[k]? =some args→k≤stop→go P tb nt ks [.code assign,.again fun s=>(∀b∈N,(s.box b).isSome=true)∧go P tb nt ks [.code body] (vround B stop jump k) s] (fun _ _=>False) (St.ofG (pvars ps.toList args vs) (B k) [[]] (some (0,0,[]))))
  (θF:List (Nat×Nat)) (vsF:List (Nat×PV)) (bsF:List (Nat×Box)) (hκF:Qii θF=true) (hallF:(θF.all fun p=>(lkp bsF p.1).isSome&&Nat.blt p.1 LENT)=true) (hvF:Qae θF vs vsF)
  (hbF:Qal θF (B (min outs.length (stop+1))) bsF)
  (hQ1:outs.length≤stop→go P tb nt ks K Q (St.ofG vsF bsF o0 none)) (hQ2:stop<outs.length→gleave P tb nt ks K Q jump (St.ofG vsF bsF o0 none)):go P tb nt ks (.code (.rangeFunc g ps assign body)::K) Q (St.ofG vs0 bs0 o0 none):=by
 simp only [go,vx];refine Qs4 hg he hs bs1 he1 θ N hN vs B hκ hall hv hb hvN stop jump hjump hBN hps hpt (fun j args h1 h2=> ?_) θF vsF bsF hκF hallF hvF hbF ?_
 ·have h:=hbody j args h1 h2;simp only [go]at h;refine Qeh (Qcj hm _ _ _ h) ?_;intro e s q;cases e with
  |normal=>
   simp only [gleave]at q;refine⟨q.1,Qcj (tb:=tb) (ks:=ks) hm _ _ _ ?_⟩;have h2:=q.2;exact h2
  |_=>simp only [gleave]at q
 ·by_cases hl:outs.length≤stop
  ·rw [if_pos hl,Qcy];exact hQ1 hl
  ·rw [if_neg hl];exact hQ2 (by omega)
theorem Zzk {P:Program} {tb:Tab} {nt:Nat} {ks:List Nat} (K:List It) (Q:Exit→St→Prop) (st:St):gleave P tb nt ks K Q .ret st=Q .ret st:=Qgl K Q st
theorem Z13 {a b:Int} [Decidable (a<b)]:(if a<b then b else a)=max a b:=by split<;>omega
theorem Z14 {a b:Int} [Decidable (a<b)]:(if a<b then a else b)=min b a:=by split<;>omega
theorem Qyg {P:Program} {tb:Tab} {nt:Nat} {ks:List Nat} {ops:Array Oper} {base i:Nat} {rest:List Oper} {accs:List Acc} {draw:Bool} {k:List It} {Q:Exit→St→Prop} (vs:List (Nat×PV)) (bs:List (Nat×Box)) (o:List (List PV)) (y:Yl) (dst:Option Tmp) (n stop:Nat) (args:List PV) (l:Acc):
  gout P tb nt ks (some (.yield n stop args [],l)) ops base i dst rest accs draw k Q (St.ofG vs bs o y)=
  (yOk y n stop o args∧gops P tb nt ks ops base (i+1) rest ((l++[(YID,true)])::accs) draw k Q ((St.ofG vs bs (o++[args]) y).put dst (.bool (decide (o.length<stop))))):=by
 rw [Qqt];simp only [Qcs,List.map_nil,List.append_nil];rfl
attribute [go_sem 10000] Qyg
theorem Zns (n stop n' stop':Nat) (outs o:List (List PV)) (args:List PV):yOk (some (n',stop',outs)) n stop o args=(n=n'∧stop=stop'∧o.length≤stop∧outs[o.length]? =some args):=rfl
attribute [go_sem] Zns
theorem Q4j {P:Program} {tb:Tab} {f:FuncId} {fn:Func} {c:Code} {cap:List PV} {bxs:List (Nat×Box)} {outs:List (List PV)} (nt:Nat) (ks:List Nat) (hm:P.follows .mixedOrders=true) (hf:P.funcs[f]? =some fn) (hb:fn.body=some c)
  (hc:callable P f=true) (hnt:fn.ntmps=nt) (hrs:fn.results.toList=[]) (hn:Nat.ble (cap.length+1) nt=true)
  (h: ∀l stop,go P tb nt ks [.code c] (Qik outs stop) (St.ofG (Qci 0 (.yld l stop::cap)) bxs [] (some (l,stop,outs)))):Qo2 P f cap bxs outs:=
 Q4i nt hf hb hc hnt hrs hn fun l stop=>Qcj (tb:=tb) (ks:=ks) hm c _ _ (by
  have h:=h l stop;simp only [go]at h;have:(fun e s=>gleave P tb nt ks [] (Qik outs stop) e s)=Qik outs stop:=by funext e s;simp only [gleave]
  rwa [this]at h)
theorem Znr {P:Program} {tb:Tab} {nt:Nat} {ks:List Nat} {K:List It} {Q:Exit→St→Prop} (hm:P.follows .mixedOrders=true) {vs0:List (Nat×PV)} {bs0:List (Nat×Box)} {o0:List (List PV)} {g:Operand} {ps:Array Tmp} {assign body:Code} {f:FuncId} {cap xs:List PV} {bxs:List (Nat×Box)} {c0:Nat} {Bc:Box} {es:List Eff} {la:Acc} {outs:List (List PV)}
  (hs:Qo2 P f xs bxs outs) (hg:(St.ofG vs0 bs0 o0 none).ev g=some (.fn f [] cap)) (hBc:lkp bs0 c0=some Bc) (he:Qee [(LENT,c0)] [] f cap (lkp bs0)=some (.callB f xs bxs es [(LENT,c0)] [],la)) (hB1:Bc.els.isEmpty=false)
  (bs1:List (Nat×Box)) (he1:Qao es (St.ofG vs0 bs0 o0 none)=St.ofG vs0 bs1 o0 none)
  (θ:List (Nat×Nat)) (N:List Nat) (hN:(N.all fun b=>Nat.ble LENT b)=true) (vs:List (Nat×PV)) (B:Nat→List (Nat×Box))
  (hκ:Qii θ=true) (hall:(θ.all fun p=>(lkp (B 0) p.1).isSome)=true) (hθc:(θ.all fun p=>p.2 != c0)=true) (hlv:((B 0).all fun p=>p.2.live)=true) (hv:Qae θ vs0 vs) (hb:Qal θ bs1 (B 0)) (hvN:Qae (Qvg N) vs vs)
  (stop:Nat) (jump:Exit) (hjump:stop<outs.length→(Ql1 jump).isSome=true) (hBN: ∀k,k≤outs.length→k≤stop+1→ ∀b∈N,(lkp (B k) b).isSome=true)
  (hps: ∀(k:Nat) (args:List PV),outs[k]? =some args→args.length=ps.size) (hpt:(ps.toList.all fun t=>Nat.blt t nt)=true)
  (hbody: ∀(k:Nat) (args:List PV),outs[k]? =some args→k≤stop→go P tb nt ks [.code assign,.again fun s=>(∀b∈N,(s.box b).isSome=true)∧go P tb nt ks [.code body] (vround B stop jump k) s] (fun _ _=>False) (St.ofG (pvars ps.toList args vs) (B k) [[]] (some (0,0,[]))))
  (θF:List (Nat×Nat)) (vsF:List (Nat×PV)) (bsF:List (Nat×Box)) (hκF:Qii θF=true) (hallF:(θF.all fun p=>(lkp bsF p.1).isSome&&Nat.blt p.1 LENT)=true) (hvF:Qae θF vs vsF)
  (hbF:Qal θF (B (min outs.length (stop+1))) bsF) (hcF:lkp bsF c0=none)
  (hQ1:outs.length≤stop→go P tb nt ks K Q (St.ofG vsF ((c0,Qvi Bc)::bsF) o0 none)) (hQ2:stop<outs.length→gleave P tb nt ks K Q jump (St.ofG vsF ((c0,Qvi Bc)::bsF) o0 none)):go P tb nt ks (.code (.rangeFunc g ps assign body)::K) Q (St.ofG vs0 bs0 o0 none):=by
 simp only [go,vx];refine Qph hg he hs hBc hB1 bs1 he1 θ N hN vs B hκ hall hθc hlv hv hb hvN stop jump hjump hBN hps hpt (fun j args h1 h2=> ?_) θF vsF bsF hκF hallF hvF hbF hcF ?_
 ·have h:=hbody j args h1 h2;simp only [go]at h;refine Qeh (Qcj hm _ _ _ h) ?_;intro e s q;cases e with
  |normal=>
   simp only [gleave]at q;refine⟨q.1,Qcj (tb:=tb) (ks:=ks) hm _ _ _ ?_⟩;have h2:=q.2;exact h2
  |_=>simp only [gleave]at q
 ·by_cases hl:outs.length≤stop
  ·rw [if_pos hl,Qcy];exact hQ1 hl
  ·rw [if_neg hl];exact hQ2 (by omega)
theorem Qvj {w:World} {im:Im} {ρ ρ':Rho} {θ:List (Nat×Nat)} (hρ: ∀b b0 x,lkp θ b=some b0→ρ b0=some x→ρ' b=some x): ∀{vs vs':List PV} {us:List Value},Qob θ vs'=some vs→LRL w im ρ vs us→LRL w im ρ' vs' us
 |vs,[],us,hr,h=>by simp [Qob]at hr;subst hr;cases h.nil_inv;exact .nil
 |vs,v'::vs',us,hr,h=>by
  unfold Qob at hr;split at hr
  ·cases hr
  ·rename_i x hx;split at hr
   ·cases hr
   ·rename_i xs hxs;cases hr;obtain⟨u,us',rfl,h1,h2⟩:=h.cons_inv;exact .cons _ _ _ _ (Qid hρ hx h1) (Qvj hρ hxs h2)
theorem Zzl {θ:List (Nat×Nat)} {xs rs:List PV} {bs bs':List (Nat×Box)} {o:List (List PV)} {y:Yl} (hθ:Qow θ bs'=true) (hv:Qob θ rs=some xs) (hb:Qal θ bs bs'):Le (St.ofG [(0,.tup xs)] bs o y) (St.ofG [(0,.tup rs)] bs' o y):=by
 simp only [Qow,Bool.and_eq_true]at hθ;obtain⟨hκ,hθ⟩:=hθ;have hall:(θ.all fun p=>(lkp bs' p.1).isSome)=true:=by
  rw [List.all_eq_true]at hθ ⊢;intro p hp;have:=hθ p hp;simp only [Bool.and_eq_true]at this;exact this.1
 rintro C a w ⟨ρ,im,h⟩;have raw:=h.raw.ren (vs':=[]) (o':=o) (y':=y) hκ hall trivial hb;have hρ: ∀b b0 x,lkp θ b=some b0→ρ b0=some x→rhoC θ ρ b=some x:=by
  intro b b0 x e1 e2;simp only [rhoC,e1];exact e2
 refine⟨rhoC θ ρ,im,h.step ⟨.refl _ _ _,Keeps.refl _ _,fun g x=> .inl (Qif x),fun _ _ x=>x,fun _ _ x=> .inl x⟩ ?_,h.nt,h.dfr,h.imc,?_,raw.rho,fun b x B hx hB=>(raw.box b x B hx hB).own fun g e=> ?_,raw.inj⟩
 ·intro b x x' hL h0 hx';simp only [rhoC]at hx';cases hb0:lkp θ b with
  |none=>rw [hb0]at hx';cases hx'
  |some b0=>
   rw [hb0]at hx';have:=List.all_eq_true.1 hθ _ (Qca hb0);simp only [Bool.and_eq_true,Bool.or_eq_true,beq_iff_eq]at this;rcases this.2 with q|q
   ·have:=Nat.le_of_ble_eq_true q;omega
   ·subst q;exact h.root.rho0 b x x' hL h0 hx'
 ·intro t v hvt;simp only [Zo1,lkp]at hvt;split at hvt
  ·rename_i e;cases hvt;subst e;have h1:=h.var 0 (.tup xs) (by simp [St.ofG,lkp]);obtain⟨us,hu,hr⟩:=h1.tup_inv;rw [hu];exact .tup _ _ (Qvj hρ hv hr)
  ·cases hvt
 ·have:Own (rhoC θ ρ) g:=⟨b,by rw [hx,e]⟩;exact(h.ownB (Qif this)).1
theorem LRL.setAt {w:World} {im:Im} {ρ:Rho}: ∀{vs:List PV} {us:List Value} {j:Nat} {v v':PV},LRL w im ρ vs us→vs[j]? =some v→(∀u,LR w im ρ v u→LR w im ρ v' u)→LRL w im ρ (vs.set j v') us
 |_,_,0,_,_,.cons _ _ _ _ h t,hv,k=>by simp at hv;subst hv;exact .cons _ _ _ _ (k _ h) t
 |_,_,j+1,_,_,.cons _ _ _ _ h t,hv,k=> .cons _ _ _ _ h (t.setAt (by simpa using hv) k)
 |_,_,_,_,_,.nil,hv,_=>by simp at hv
theorem Zv1 {st:St} {b j nb esz:Nat} {ety:TypeId} {B:Box} {cs:List PV} (hL:Nat.blt nb LENT=true) (hB:st.box b=some B) (ha:B.arr=false) (he:B.els=[.agg cs]) (hj:cs[j]? =some .nilS) (hn:st.box nb=none) (hz:0<esz):
  Le st ((st.setBox nb {els:=[],esz:=esz,ety:=ety,fro:=0,live:=true,arr:=true}).setBox b {B with els:=[.agg (cs.set j (.bs nb esz 0 0))]}):=by
 rintro C a w ⟨ρ,im,h⟩;have hbn:b≠nb:=by rintro rfl;rw [hB]at hn;cases hn
 obtain⟨h1,h2⟩:=h.addBox ⟨.refl _ _ _,Keeps.refl _ _,fun _ x=> .inl x,fun _ _ x=>x,fun _ _ x=> .inl x⟩ h (Nat.le_of_ble_eq_true hL) hn {els:=[],esz:=esz,ety:=ety,fro:=0,live:=true,arr:=true} none (by intro g e;cases e) ⟨rfl,rfl,rfl,hz⟩ (by intro b' g B' e;cases e);have hB1:(st.setBox nb {els:=[],esz:=esz,ety:=ety,fro:=0,live:=true,arr:=true}).box b=some B:=by simp [St.setBox,Qar _ _ _ _ hbn,hB]
 generalize hst:st.setBox nb {els:=[],esz:=esz,ety:=ety,fro:=0,live:=true,arr:=true}=st1 at*;refine⟨upd ρ nb (some none),im,h1.root,h1.nt,h1.dfr,h1.imc,h1.var,?_,?_,?_⟩
 ·intro b';by_cases e:b'=b
  ·subst e;simp [St.setBox,Qaw,h1.rho b',hB1]
  ·simp [St.setBox,Qar _ _ _ _ e,h1.rho b']
 ·intro b' x B' hx hB';by_cases e:b'=b
  ·subst e;simp only [St.setBox,Qaw,Option.some.injEq]at hB';subst hB';have hb:=h1.box b' x B hx hB1;cases x with
   |none=>obtain⟨z1,_⟩:=hb;rw [he]at z1;cases z1
   |some g=>
    obtain⟨k1,k2,k3,k4,cur,us,rest,k5,k6,k7,k8,k9,k10,k11⟩:=hb;rw [he]at k2 k4 k7;simp only [List.flatMap_cons,List.flatMap_nil,List.append_nil]at k7;refine⟨k1,by simpa using k2,k3,?_,cur,us,rest,k5,k6,?_,(by intro q;rw [ha]at q;cases q),k9,k10,k11⟩
    ·intro e he';simp only [List.mem_singleton]at he';subst he';have:=k4 (.agg cs) (by simp);simpa [PV.cells]using this
    ·simp only [List.flatMap_cons,List.flatMap_nil,List.append_nil];refine LRL.setAt (vs:=cs) k7 hj fun u hu=> ?_;rw [hu.nilS_inv];exact .bsNil nb esz none (Qaw _ _ _)
  ·simp only [St.setBox,Qar _ _ _ _ e]at hB';exact h1.box b' x B' hx hB'
 ·have key: ∀b' B',(st1.setBox b {B with els:=[.agg (cs.set j (.bs nb esz 0 0))]}).box b'=some B'→ ∃B0,st1.box b'=some B0∧B0.live=B'.live:=fun b' B' e=>by
   by_cases y:b'=b
   ·subst y;simp only [St.setBox,Qaw,Option.some.injEq]at e;subst e;exact⟨B,hB1,rfl⟩
   ·exact⟨B',by simpa only [St.setBox,Qar _ _ _ _ y]using e,rfl⟩
  intro b1 b2 g B1 B2 g1 g2 e1 e2 l1 l2;obtain⟨C1,x1,y1⟩:=key _ _ e1;obtain⟨C2,x2,y2⟩:=key _ _ e2;exact h1.inj b1 b2 g C1 C2 g1 g2 x1 x2 (y1.trans l1) (y2.trans l2)
theorem Qs5 {vs:List (Nat×PV)} {bs:List (Nat×Box)} {o:List (List PV)} {y:Yl} (b j nb esz:Nat) (ety:TypeId) {B:Box} {cs:List PV} (hL:Nat.blt nb LENT=true) (hB:lkp bs b=some B) (ha:B.arr=false) (he:B.els=[.agg cs]) (hj:cs[j]? =some .nilS) (hn:lkp bs nb=none) (hz:0<esz):
  Le (St.ofG vs bs o y) (St.ofG vs ((b,{B with els:=[.agg (cs.set j (.bs nb esz 0 0))]})::(nb,{els:=[],esz:=esz,ety:=ety,fro:=0,live:=true,arr:=true})::bs) o y):=Zv1 (st:=St.ofG vs bs o y) hL hB ha he hj hn hz
end Go.Vl

namespace Go.Proofs.YtcaffiaempefjaaGreatDoor
open Go.Vl Go.RowKit Go.Dg
def Zz9:Go.Shelf.Ren:=⟨fun|29=>144|_=>0,fun|0=>0|3=>3|4=>4|5=>5|22=>115|25=>132|54=>214|_=>0,fun|1=>1|_=>0⟩
theorem Zw3:Go.Proofs.Lays7.n29 Tryz.prog Zz9:={
 mixed:=mixed
 f29:=Tryz.func144.trans (congrArg some (by kernel_rfl))
 t0:=Tryz.underlying0
 a0:=Tryz.isAgg0
 z0:=Tryz.sizeOf0
 v0:=Tryz.zeroValue0
 i0:=by kernel_rfl
 t3:=Tryz.underlying3
 a3:=Tryz.isAgg3
 z3:=Tryz.sizeOf3
 v3:=Tryz.zeroValue3
 i3:=by kernel_rfl
 t4:=Tryz.underlying4
 a4:=Tryz.isAgg4
 z4:=Tryz.sizeOf4
 v4:=Tryz.zeroValue4
 i4:=by kernel_rfl
 t5:=Tryz.underlying5
 a5:=Tryz.isAgg5
 z5:=Tryz.sizeOf5
 v5:=Tryz.zeroValue5
 i5:=by kernel_rfl
 t22:=Tryz.underlying115
 a22:=Tryz.isAgg115
 z22:=Tryz.sizeOf115
 v22:=Tryz.zeroValue115
 i22:=by kernel_rfl
 t25:=Tryz.underlying132
 a25:=Tryz.isAgg132
 z25:=Tryz.sizeOf132
 v25:=Tryz.zeroValue132
 i25:=by kernel_rfl
 t54:=Tryz.underlying214
 a54:=Tryz.isAgg214
 z54:=Tryz.sizeOf214
 g1:=by kernel_rfl}
theorem Qzm:Tryz.prog.globalNamed Qoa=some 1:=by kernel_rfl
theorem Zw4 {w:World} {F:Nat} (h:Laid Tryz.prog F w):Go.Proofs.TabAt 1 Go.Lib.deBruijn64tab w:=by
 obtain⟨_,h2⟩:=h Qoa Zcq (.inr ⟨rfl,rfl⟩) _ Qzm;intro j hj;simp only [World.var?,Qzm,Option.bind_some]at h2;split at h2
 ·rename_i cs a b hh;cases h2;have e:Zcq[j]? =some (.int .u8 (Go.Lib.deBruijn64tab.getD j 0)):=by
   unfold Zcq;rw [List.getElem?_toArray,List.getElem?_map,List.getElem?_eq_getElem hj,List.getD_eq_getElem?_getD,List.getElem?_eq_getElem hj];rfl
  simp [World.cell?,hh,e]
 ·cases h2
theorem Q6s {w:World} {im:Im} {k:IntKind} {n:Int} {us:List Value} (h:RepL w im [.int k n] us):us=[.int k n]:=by
 cases h with
 |cons _ u _ us h t=>
 cases h;cases t;rfl
theorem Zw5 (x:Nat) (hx:x<18446744073709551616):Qaf Tryz.prog 144 [.int .u64 (x:Int)] (.int .i64 ((Go.Lib.ctz 64 x:Nat):Int)):=by
 refine .inl ⟨by kernel_rfl,fun w im us _ _ hlay hr hi=> ?_⟩;rw [Q6s hr];refine(Go.Proofs.Any7.bits_TrailingZeros64 Zw3 x hx w (fun _=>Zw4 hlay)).mono ?_;rintro e w' ⟨rfl,rfl⟩;exact⟨_,rfl,Below.refl _ _,.int _ _⟩
theorem Zq1: ∀m,m<256→m≠0→Go.Lib.ctz 64 m=loB m:=by decide+kernel
theorem tz_v (m:Nat) (h:m<256) (h0:m≠0):Qaf Tryz.prog 132 [.int .u64 (m:Int)] (.int .i64 ((loB m:Nat):Int)):=by
 have h1:=Zw5 m (by omega);rw [Zq1 m h h0]at h1;generalize loB m=b at*;refine Qab (tb:=[]) 8 [.tmp 2] [0,2] mixed Tryz.func132 rfl (by kernel_rfl) ?_;repeat (first|simp -implicitDefEqProofs only [go_sem,seval]|(with_reducible refine Qaa h1 ?_ ?_ ?_);rfl;rfl)
theorem Zq2 {m:Nat} (h:m<256) (h0:m≠0):IntKind.u64.wrap ((@HAnd.hAnd (BitVec 64) (BitVec 64) (BitVec 64) (@instHAndOfAndOp (BitVec IntKind.u64.bits) (@BitVec.instAndOp IntKind.u64.bits)) (BitVec.ofInt 64 (m:Int)) (BitVec.ofInt 64 (((m-1:Nat)):Int))).toNat:Int)=((m &&& (m-1):Nat):Int):=by
 have:=Go.bits_and_u64_nat m (m-1) (by omega) (by omega);exact this
theorem Zfm {m:Nat} (h:m<256) (h0:m≠0):IntKind.u64.wrap ((m:Int)-1)=((m-1:Nat):Int):=by rw [IntKind.wrap_u64];omega
def setB (n:Int):Box:={els:=[.int .u64 n],esz:=1,ety:=133,fro:=0,live:=true,arr:=false}
attribute [go_sem] setB
def setO (m:Nat):List (List PV):=(Qb2 m).map fun(i:Nat)=>[.int .i64 (i:Int)]
theorem Q6t {m k:Nat} (hk:k<(Qb2 m).length):(setO m).take (k+1)=(setO m).take k++[[.int .i64 (((Qb2 m).getD k 0:Nat):Int)]]:=by
 unfold setO;rw [List.take_add_one,List.getElem?_map,List.getElem?_eq_getElem hk,List.getD_eq_getElem?_getD,List.getElem?_eq_getElem hk];rfl
theorem Zfn {m k:Nat} (hk:k<(Qb2 m).length):(setO m)[((setO m).take k).length]? =some [.int .i64 (((Qb2 m).getD k 0:Nat):Int)]:=by
 have hl:((setO m).take k).length=k:=by simp [setO];omega
 rw [hl];unfold setO;rw [List.getElem?_map,List.getElem?_eq_getElem hk,List.getD_eq_getElem?_getD,List.getElem?_eq_getElem hk];rfl
set_option maxHeartbeats 2000000 in
theorem Zw6 (m:Nat) (hm:m<256):Qo2 Tryz.prog 131 [.bp 1000000 1 0 0] [(1000000,setB (m:Int))] (setO m):=by
 refine Q4j (tb:=[]) 14 [0,1,4,13] mixed Tryz.func131 rfl (by kernel_rfl) (by kernel_rfl) (by kernel_rfl) (by kernel_rfl) fun l stop=> ?_;repeat simp -implicitDefEqProofs only [go_sem]
 refine Qat mixed (fun k:{k:Nat // k≤(Qb2 m).length∧k≤stop}=>St.ofG [(0,.yld l stop),(1,.bp 1000000 1 0 0)] [(1000000,setB ((Qih k.1 m:Nat):Int))] ((setO m).take k.1) (some (l,stop,setO m))) (fun k=>(Qb2 m).length-k.1) ⟨0,Nat.zero_le _,Nat.zero_le _⟩ ?_ ?_
 ·refine Qak (θ:=[(1000000,1000000)]) rfl ?_ ?_
  ·simp [Qae,lkp,ren1,ren0,Qan]
  ·exact⟨⟨rfl,rfl,rfl,rfl,rfl,.inr ⟨rfl,_,_,rfl,rfl,rfl,rfl⟩⟩,trivial⟩
 ·rintro⟨k,hk,hst⟩;simp only;by_cases hA:k<(Qb2 m).length
  ·obtain⟨d0,d1,d2⟩:=Q55 hm hA;have t1:=tz_v _ d2 d0;have a1:=Zq2 d2 d0;have a2:=Zfm d2 d0;rw [←Qpu]at a1;have hsn:=Q6t hA;have hgt:=Zfn hA;rw [←d1]at hsn hgt;have hl:((setO m).take k).length=k:=by simp [setO];omega
   rw [hl]at hgt;have nz:(((Qih k m:Nat):Int) != 0)=true:=by simp only [bne_iff_ne,ne_eq];omega
   generalize hD2:Qih (k+1) m=D2 at*;generalize Qih k m=D at*;have hst':(k≤stop)=True:=eq_true hst;by_cases hlt:k<stop
   case neg=>
    have hlt':(k<stop)=False:=eq_false hlt;have e:k=stop:=by omega
    have htk:(setO m).take (stop+1)=(setO m).take k++[[.int .i64 ((loB D:Nat):Int)]]:=by rw [←e];exact hsn
    generalize (setO m).take k=O at*;repeat (first|simp -implicitDefEqProofs only [go_sem,seval,nz,hgt,hl,hst',hlt',Qik,htk]|(with_reducible refine Qaa t1 ?_ ?_ ?_);rfl;rfl)
   have hlt':(k<stop)=True:=eq_true hlt;have hsn':=hsn;generalize hO:(setO m).take k=O at*;repeat (first|simp -implicitDefEqProofs only [go_sem,seval,nz,hgt,hl,hst',hlt',a1,a2]|(with_reducible refine Qaa t1 ?_ ?_ ?_);rfl;rfl)
   refine⟨⟨k+1,hA,hlt⟩,by simp only;omega,?_⟩;simp only [hsn',hD2];refine Qak (θ:=[(1000000,1000000)]) rfl ?_ ?_
   ·simp [Qae,lkp,ren1,ren0,Qan]
   ·exact⟨⟨rfl,rfl,rfl,rfl,rfl,.inr ⟨rfl,_,_,rfl,rfl,rfl,rfl⟩⟩,trivial⟩
  ·obtain rfl:k=(Qb2 m).length:=by omega
   have e0:=Q56 hm;have ht:(setO m).take (Qb2 m).length=setO m:=List.take_of_length_le (by simp [setO]);have ht2:(setO m).take (stop+1)=setO m:=List.take_of_length_le (by simp [setO];omega);have nz:(((0:Nat):Int) != 0)=false:=rfl;rw [e0,ht];repeat simp -implicitDefEqProofs only [go_sem,seval,nz,Qik,ht2]
abbrev WdBl (x y z t:Int) (w:Wd):Prop:=(w.lx≤x∧x≤w.hx)∧(w.ly≤y∧y≤w.hy)∧(w.lz≤z∧z≤w.hz)∧w.f≤t∧t<w.t
theorem Zw7 {x y z t:Int} {w:Wd} (h:WdBl x y z t w):blW x y z t w=true:=decide_eq_true h
theorem Qtz {x y z t:Int} {w:Wd} (h: ¬WdBl x y z t w):blW x y z t w=false:=decide_eq_false h
theorem Q6u {p:Wd→Bool} {l:List Wd} {i:Nat} (h:i<l.length):mask p (l.take (i+1))=if p l[i]then mask p (l.take i)+2^i else mask p (l.take i):=by
 rw [Qbq l i h,Qtq];have:(l.take i).length=i:=by simp;omega
 rw [this]
theorem Zw8 {m i:Nat} (hi:i<8) (hm:m<2^i):IntKind.u64.wrap ((@HOr.hOr (BitVec 64) (BitVec 64) (BitVec 64) (@instHOrOfOrOp (BitVec IntKind.u64.bits) (@BitVec.instOrOp IntKind.u64.bits)) (BitVec.ofInt 64 (m:Int)) (BitVec.ofInt 64 ((2^i:Nat):Int))).toNat:Int)=((m+2^i:Nat):Int):=by
 have h2:2^i≤2^7:=Nat.pow_le_pow_right (by decide) (by omega);have:=Go.bits_or_u64_nat m (2^i) (by omega) (by omega);rw [Zwt hm]at this;exact this
theorem Zq3 {i:Nat} (hi:i<8):IntKind.u64.wrap (1*2^min i 64)=((2^i:Nat):Int):=by
 match i,hi with
 |0,_=>rfl
 |1,_=>rfl
 |2,_=>rfl
 |3,_=>rfl
 |4,_=>rfl
 |5,_=>rfl
 |6,_=>rfl
 |7,_=>rfl
set_option maxHeartbeats 8000000 in
set_option maxRecDepth 100000 in
theorem Q6v (l:List Wd) (x y z t:Int) (hl:l.length≤8):Qaf Tryz.prog 77 [wsPV l,.agg [.int .i64 x,.int .i64 y,.int .i64 z],.int .i64 t] (.int .u64 ((mask (blW x y z t) l:Nat):Int)):=by
 have hp0:=Qkz x y z;have hz0:IntKind.u64.wrap 0=0:=rfl;refine Qab (tb:=[]) 63 [.tmp 6] [0,1,2,4,6,7,8,9,10,11,12,13,16,17,18,19,32,39,40,41,55] mixed Tryz.func77 rfl (by kernel_rfl) ?_;repeat simp -implicitDefEqProofs only [go_sem,seval]
 refine Zvy mixed ?_;repeat (first|simp -implicitDefEqProofs only [go_sem,seval]|(with_reducible refine Qaa hp0 ?_ ?_ ?_);rfl;rfl)
 refine Qat mixed (fun i:{i:Nat // i≤l.length}=>St.of [(0,wsPV l),(2,.int .i64 t),(6,.int .u64 ((mask (blW x y z t) (l.take i.1):Nat):Int)),(7,.bp 102 3 0 0),(16,wsPV l),(17,.int .i64 (l.length:Int)),(18,.int .i64 (i.1:Int))]
  [(102,{els:=[.agg [.int .i64 x,.int .i64 y,.int .i64 z]],esz:=3,ety:=126,fro:=0,live:=true,arr:=false})]) (fun i=>l.length-i.1) ⟨0,Nat.zero_le _⟩ ?_ ?_
 ·refine Qak (θ:=[(102,102)]) rfl ?_ ?_
  ·simp [Qae,lkp,ren1,ren0,Qan,wsPV,List.take_zero];rfl
  ·exact⟨⟨rfl,rfl,rfl,rfl,rfl,.inr ⟨rfl,_,_,rfl,rfl,rfl,rfl⟩⟩,trivial⟩
 rintro⟨i,hi⟩;simp only;by_cases hA:i<l.length
 case neg=>
  have hA':=ltF hA;have et:l.take i=l:=List.take_of_length_le (by omega);rw [et];generalize mask (blW x y z t) l=M at*;repeat simp -implicitDefEqProofs only [go_sem,seval,hA',Zzk]
 have hA':=ltT hA;have n0:=nnT i;have hg:=Qzj l i hA;have hwk:=Qai (a:=i) (by omega);have hms:=Q6u (p:=blW x y z t) hA;have hlt:=Qwb (blW x y z t) (l.take i);have hti:(l.take i).length=i:=by simp;omega
 rw [hti]at hlt;have hor:=Zw8 (i:=i) (by omega) hlt;have hsh:=Zq3 (i:=i) (by omega);generalize l[i]=w at*;generalize hM2:mask (blW x y z t) (l.take (i+1))=M2 at*;generalize mask (blW x y z t) (l.take i)=M at*;have h0:=Qkz w.lx w.ly w.lz;have h1:=Qkz w.hx w.hy w.hz;by_cases c0:t<w.f
 ·have c0':=eq_true c0;have e:M2=M:=by rw [hms,Qtz (by unfold WdBl;omega)];rfl
  repeat simp -implicitDefEqProofs only [go_sem,seval,hA',n0,hg,hwk,Int.toNat_natCast,decide_true,c0']
  refine⟨⟨i+1,hA⟩,by simp only;omega,Qak (θ:=[(102,102)]) rfl ?_ ?_⟩
  ·simp only [hM2,e];simp [Qae,lkp,ren1,ren0,Qan,wsPV]
  ·exact⟨⟨rfl,rfl,rfl,rfl,rfl,.inr ⟨rfl,_,_,rfl,rfl,rfl,rfl⟩⟩,trivial⟩
 have c0':=eq_false c0;by_cases c1:w.t≤t
 ·have c1':=eq_true c1;have e:M2=M:=by rw [hms,Qtz (by unfold WdBl;omega)];rfl
  repeat simp -implicitDefEqProofs only [go_sem,seval,hA',n0,hg,hwk,Int.toNat_natCast,decide_true,decide_false,c0',c1']
  refine⟨⟨i+1,hA⟩,by simp only;omega,Qak (θ:=[(102,102)]) rfl ?_ ?_⟩
  ·simp only [hM2,e];simp [Qae,lkp,ren1,ren0,Qan,wsPV]
  ·exact⟨⟨rfl,rfl,rfl,rfl,rfl,.inr ⟨rfl,_,_,rfl,rfl,rfl,rfl⟩⟩,trivial⟩
 have c1':=eq_false c1;repeat (first|simp -implicitDefEqProofs only [go_sem,seval,hA',n0,hg,Int.toNat_natCast,decide_true,decide_false,c0',c1']|(with_reducible refine Qaa h0 ?_ ?_ ?_);rfl;rfl|(with_reducible refine Qaa h1 ?_ ?_ ?_);rfl;rfl|(with_reducible refine And.intro (Qac _ _ (by kernel_rfl)) ?_))
 refine Qbt mixed [0,1,2,3] ?_;by_cases c2:x<w.lx
 ·have c2':=eq_true c2;have e:M2=M:=by rw [hms,Qtz (by unfold WdBl;omega)];rfl
  repeat simp -implicitDefEqProofs only [go_sem,seval,hwk,Int.toNat_natCast,decide_true,c2']
  refine⟨⟨i+1,hA⟩,by simp only;omega,Qak (θ:=[(102,102)]) rfl ?_ ?_⟩
  ·simp only [hM2,e];simp [Qae,lkp,ren1,ren0,Qan,wsPV]
  ·exact⟨⟨rfl,rfl,rfl,rfl,rfl,.inr ⟨rfl,_,_,rfl,rfl,rfl,rfl⟩⟩,trivial⟩
 have c2':=eq_false c2;by_cases c3:w.hx<x
 ·have c3':=eq_true c3;have e:M2=M:=by rw [hms,Qtz (by unfold WdBl;omega)];rfl
  repeat simp -implicitDefEqProofs only [go_sem,seval,hwk,Int.toNat_natCast,decide_true,decide_false,c2',c3']
  refine⟨⟨i+1,hA⟩,by simp only;omega,Qak (θ:=[(102,102)]) rfl ?_ ?_⟩
  ·simp only [hM2,e];simp [Qae,lkp,ren1,ren0,Qan,wsPV]
  ·exact⟨⟨rfl,rfl,rfl,rfl,rfl,.inr ⟨rfl,_,_,rfl,rfl,rfl,rfl⟩⟩,trivial⟩
 have c3':=eq_false c3;by_cases c4:y<w.ly
 ·have c4':=eq_true c4;have e:M2=M:=by rw [hms,Qtz (by unfold WdBl;omega)];rfl
  repeat simp -implicitDefEqProofs only [go_sem,seval,hwk,Int.toNat_natCast,decide_true,decide_false,c2',c3',c4']
  refine⟨⟨i+1,hA⟩,by simp only;omega,Qak (θ:=[(102,102)]) rfl ?_ ?_⟩
  ·simp only [hM2,e];simp [Qae,lkp,ren1,ren0,Qan,wsPV]
  ·exact⟨⟨rfl,rfl,rfl,rfl,rfl,.inr ⟨rfl,_,_,rfl,rfl,rfl,rfl⟩⟩,trivial⟩
 have c4':=eq_false c4;by_cases c5:w.hy<y
 ·have c5':=eq_true c5;have e:M2=M:=by rw [hms,Qtz (by unfold WdBl;omega)];rfl
  repeat simp -implicitDefEqProofs only [go_sem,seval,hwk,Int.toNat_natCast,decide_true,decide_false,c2',c3',c4',c5']
  refine⟨⟨i+1,hA⟩,by simp only;omega,Qak (θ:=[(102,102)]) rfl ?_ ?_⟩
  ·simp only [hM2,e];simp [Qae,lkp,ren1,ren0,Qan,wsPV]
  ·exact⟨⟨rfl,rfl,rfl,rfl,rfl,.inr ⟨rfl,_,_,rfl,rfl,rfl,rfl⟩⟩,trivial⟩
 have c5':=eq_false c5;by_cases c6:z<w.lz
 ·have c6':=eq_true c6;have e:M2=M:=by rw [hms,Qtz (by unfold WdBl;omega)];rfl
  repeat simp -implicitDefEqProofs only [go_sem,seval,hwk,Int.toNat_natCast,decide_true,decide_false,c2',c3',c4',c5',c6']
  refine⟨⟨i+1,hA⟩,by simp only;omega,Qak (θ:=[(102,102)]) rfl ?_ ?_⟩
  ·simp only [hM2,e];simp [Qae,lkp,ren1,ren0,Qan,wsPV]
  ·exact⟨⟨rfl,rfl,rfl,rfl,rfl,.inr ⟨rfl,_,_,rfl,rfl,rfl,rfl⟩⟩,trivial⟩
 have c6':=eq_false c6;by_cases c7:w.hz<z
 ·have c7':=eq_true c7;have e:M2=M:=by rw [hms,Qtz (by unfold WdBl;omega)];rfl
  repeat simp -implicitDefEqProofs only [go_sem,seval,hwk,Int.toNat_natCast,decide_true,decide_false,c2',c3',c4',c5',c6',c7']
  refine⟨⟨i+1,hA⟩,by simp only;omega,Qak (θ:=[(102,102)]) rfl ?_ ?_⟩
  ·simp only [hM2,e];simp [Qae,lkp,ren1,ren0,Qan,wsPV]
  ·exact⟨⟨rfl,rfl,rfl,rfl,rfl,.inr ⟨rfl,_,_,rfl,rfl,rfl,rfl⟩⟩,trivial⟩
 have c7':=eq_false c7;have e:M2=M+2^i:=by rw [hms,Zw7 (by unfold WdBl;omega)];rfl
 have hni:((i:Int)<0)=False:=eq_false (by omega);repeat simp -implicitDefEqProofs only [go_sem,seval,hwk,Int.toNat_natCast,decide_true,decide_false,c2',c3',c4',c5',c6',c7',hni,hsh,hor]
 refine⟨⟨i+1,hA⟩,by simp only;omega,Qak (θ:=[(102,102)]) rfl ?_ ?_⟩
 ·simp only [hM2,e];simp [Qae,lkp,ren1,ren0,Qan,wsPV]
 ·exact⟨⟨rfl,rfl,rfl,rfl,rfl,.inr ⟨rfl,_,_,rfl,rfl,rfl,rfl⟩⟩,trivial⟩
abbrev iB1 (xs:List Int):Box:={els:=xs.map (PV.int .i64),esz:=1,ety:=3,fro:=0,live:=true,arr:=true}
theorem Qrz (l:List Int):(((l.map (PV.int .i64)).flatMap PV.cells).all PV.okCell)=true:=by
 rw [List.all_eq_true];intro x hx;simp only [List.mem_flatMap,List.mem_map]at hx;obtain⟨_,⟨_,_,rfl⟩,h⟩:=hx;simp only [PV.cells,List.mem_singleton]at h;subst h;rfl
theorem Z0a (m:Nat):Qdz Tryz.prog 111 [.int .u64 (m:Int)] [] (.fn 131 [] [.bp 0 1 0 0]) [(0,setB (m:Int))]:=by
 refine Qdx (tb:=[]) 4 [.tmp 2] [0,1,2] mixed Tryz.func111 rfl (by kernel_rfl) (by kernel_rfl) (by kernel_rfl) (by kernel_rfl) (by rfl) ?_;repeat simp -implicitDefEqProofs only [go_sem,seval]
 refine Qcq (.inl rfl) ?_;simp -implicitDefEqProofs only [go_sem,seval];refine Qak (θ:=[(0,0)]) rfl ?_ ?_
 ·simp [Qae,lkp,ren1,ren0,Qan]
 ·exact⟨⟨rfl,rfl,rfl,rfl,rfl,.inr ⟨rfl,_,_,rfl,rfl,rfl,rfl⟩⟩,trivial⟩
def SW (g:Wd→Int) (l:List Wd) (m k:Nat):Int:=smW g (pick l ((Qb2 m).take k))
theorem Qwj (g:Wd→Int) (l:List Wd) {m k:Nat} (h:k<(Qb2 m).length):SW g l m (k+1)=SW g l m k+g (l.getD ((Qb2 m).getD k 0) wd0):=by
 unfold SW;have e:(Qb2 m).take (k+1)=(Qb2 m).take k++[(Qb2 m).getD k 0]:=by
  rw [List.take_add_one,List.getElem?_eq_getElem h,List.getD_eq_getElem?_getD,List.getElem?_eq_getElem h];rfl
 rw [e];unfold pick;rw [List.map_append,Qpw];simp [smW]
theorem Zq4 {g:Wd→Int} (hg:g=Wd.ux∨g=Wd.uy∨g=Wd.uz) {l:List Wd} {m:Nat} (hv:Qbe l=true) (hb: ∀i∈Qb2 m,i<l.length) (k:Nat): -40000≤SW g l m k∧SW g l m k≤40000:=by
 have h8:(Qb2 m).length≤8:=List.length_filter_le _ _;have h3:=Q58 g 5000 (pick l ((Qb2 m).take k)) fun w hw=>by
  have:=Qnq ((Qel hv).1 w (Ze8 (fun i hi=>hb i (List.mem_of_mem_take hi)) hw));rcases hg with rfl|rfl|rfl<;>omega
 have h4:(pick l ((Qb2 m).take k)).length≤8:=by unfold pick;rw [List.length_map,List.length_take];omega
 unfold SW;omega
def suB (l:List Wd) (m k:Nat):List (Nat×Box):=[(1000000,{els:=[wsPV l],esz:=1,ety:=26,fro:=0,live:=true,arr:=false}),(1000001,{els:=[.agg [.int .i64 (SW Wd.ux l m k),.int .i64 (SW Wd.uy l m k),.int .i64 (SW Wd.uz l m k)]],esz:=3,ety:=56,fro:=0,live:=true,arr:=false})]
theorem Z0b (l:List Wd) (m k:Nat): ∀b∈ [1000000,1000001],(lkp (suB l m k) b).isSome=true:=by simp [suB,lkp]
set_option maxHeartbeats 4000000 in
theorem Zw9 (l:List Wd) (m:Nat) (hm:m<256) (hv:Qbe l=true) (hb: ∀i∈Qb2 m,i<l.length):
  Qaf Tryz.prog 78 [.int .u64 (m:Int),wsPV l] (.agg [.int .i64 (smW Wd.ux (pick l (Qb2 m))),.int .i64 (smW Wd.uy (pick l (Qb2 m))),.int .i64 (smW Wd.uz (pick l (Qb2 m)))]):=by
 have hi:=Z0a m;have hY:=Zw6 m hm;have b1:=Zq4 (g:=Wd.ux) (.inl rfl) hv hb;have b2:=Zq4 (g:=Wd.uy) (.inr (.inl rfl)) hv hb;have b3:=Zq4 (g:=Wd.uz) (.inr (.inr rfl)) hv hb;have hlen:(setO m).length=(Qb2 m).length:=by simp [setO]
 have hmin:min (setO m).length ((Qb2 m).length+1)=(Qb2 m).length:=by rw [hlen];omega
 have eS: ∀g:Wd→Int,SW g l m (Qb2 m).length=smW g (pick l (Qb2 m)):=fun g=>by unfold SW;rw [List.take_length]
 have bl1:Nat.blt 1700 1000000=true:=rfl;rw [←eS Wd.ux,←eS Wd.uy,←eS Wd.uz]

 refine Qab (tb:=[(101,[],[(0,1700)])]) 34 [.cell 4 56] [0,1,3,4,5,6,8,9] mixed Tryz.func78 rfl (by kernel_rfl) ?_;repeat (first|simp -implicitDefEqProofs only [go_sem,seval,bl1]|(with_reducible refine Qc0 hi ?_ ?_ ?_ ?_);rfl;rfl;rfl)
 refine Znr (c0:=1700) mixed hY rfl rfl rfl rfl _ rfl [(1000000,0),(1000001,1)] [1000000,1000001] rfl [(3,.bp 1000000 1 0 0),(4,.bp 1000001 3 0 0)] (suB l m) rfl rfl rfl rfl ?_ ?_ ?_ (Qb2 m).length .normal (fun h=>by rw [hlen]at h;omega) (fun k _ _=>Z0b l m k) ?_ rfl ?_
  [(0,1000000),(1,1000001)] [(3,.bp 0 1 0 0),(4,.bp 1 3 0 0)] [(0,{els:=[wsPV l],esz:=1,ety:=26,fro:=0,live:=true,arr:=false}),(1,{els:=[.agg [.int .i64 (SW Wd.ux l m (Qb2 m).length),.int .i64 (SW Wd.uy l m (Qb2 m).length),.int .i64 (SW Wd.uz l m (Qb2 m).length)]],esz:=3,ety:=56,fro:=0,live:=true,arr:=false})] rfl rfl ?_ ?_ rfl (fun _=> ?_) (fun h=>by rw [hlen]at h;omega)
 ·simp [Qae,lkp,ren1,ren0,Qan]
 ·simp only [suB];exact⟨⟨rfl,rfl,rfl,rfl,rfl,.inr ⟨rfl,_,_,rfl,rfl,rfl,rfl⟩⟩,⟨rfl,rfl,rfl,rfl,rfl,.inr ⟨rfl,_,_,rfl,rfl,rfl,rfl⟩⟩,trivial⟩
 ·simp [Qae,lkp,ren1,ren0,Qan,Qvg]
 ·intro k args h;simp only [setO,List.getElem?_map,Option.map_eq_some_iff]at h;obtain⟨x, -,rfl⟩:=h;rfl
 ·rintro k args hka hk;simp only [setO,List.getElem?_map,Option.map_eq_some_iff]at hka;obtain⟨i,hx,rfl⟩:=hka;obtain⟨hk2,e⟩:=List.getElem?_eq_some_iff.1 hx;have hil:i<l.length:=hb i (by rw [←e];exact List.getElem_mem _);have hD:(Qb2 m).getD k 0=i:=by rw [List.getD_eq_getElem?_getD,hx];rfl
  have s1:=Qwj Wd.ux l hk2;have s2:=Qwj Wd.uy l hk2;have s3:=Qwj Wd.uz l hk2;have hwi:l.getD i wd0=l[i]:=by rw [List.getD_eq_getElem?_getD,List.getElem?_eq_getElem hil];rfl
  rw [hD,hwi]at s1 s2 s3;have hg:=Qzj l i hil;have n0:=nnT i;have w1:IntKind.i64.wrap (SW Wd.ux l m k+l[i].ux)=SW Wd.ux l m (k+1):=by rw [←s1];have:=b1 (k+1);exact Qah (by omega) (by omega)
  have w2:IntKind.i64.wrap (SW Wd.uy l m k+l[i].uy)=SW Wd.uy l m (k+1):=by rw [←s2];have:=b2 (k+1);exact Qah (by omega) (by omega)
  have w3:IntKind.i64.wrap (SW Wd.uz l m k+l[i].uz)=SW Wd.uz l m (k+1):=by rw [←s3];have:=b3 (k+1);exact Qah (by omega) (by omega)
  simp only [suB];generalize l[i]=w at*;repeat simp -implicitDefEqProofs only [go_sem,seval,pvars,List.toList_toArray]
  refine⟨by simp [lkp],?_⟩;repeat (first|simp -implicitDefEqProofs only [go_sem,seval,hg,n0,w1,w2,w3]|(with_reducible refine And.intro (Qac _ _ (by kernel_rfl)) ?_))
  refine⟨by omega,?_⟩;refine Qak (θ:=[(1000000,1000000),(1000001,1000001)]) rfl ?_ ?_
  ·simp [Qae,lkp,ren1,ren0,Qan]
  ·simp only [suB];exact⟨⟨rfl,rfl,rfl,rfl,rfl,.inr ⟨rfl,_,_,rfl,rfl,rfl,rfl⟩⟩,⟨rfl,rfl,rfl,rfl,rfl,.inr ⟨rfl,_,_,rfl,rfl,rfl,rfl⟩⟩,trivial⟩
 ·simp [Qae,lkp,ren1,ren0,Qan]
 ·rw [hmin];simp only [suB];exact⟨⟨rfl,rfl,rfl,rfl,rfl,.inr ⟨rfl,_,_,rfl,rfl,rfl,rfl⟩⟩,⟨rfl,rfl,rfl,rfl,rfl,.inr ⟨rfl,_,_,rfl,rfl,rfl,rfl⟩⟩,trivial⟩
 ·repeat simp -implicitDefEqProofs only [go_sem,seval]
theorem Zq5 (p:Wd→Bool) {l:List Wd} (h:l.length≤8): ∀i∈Qb2 (mask p l),i<l.length:=fun i hi=>by
 rw [Go.Dg.bits_mask p l h]at hi;have:=Q57 p l 0 i hi;omega
def Q6w (l:List Wd) (x y z t:Int):PV:= .agg [.int .i64 (atW Wd.ux l x y z t),.int .i64 (atW Wd.uy l x y z t),.int .i64 (atW Wd.uz l x y z t)]
theorem Zq6 (l:List Wd) (x y z t:Int) (hv:Qbe l=true):Qaf Tryz.prog 78 [.int .u64 ((mask (blW x y z t) l:Nat):Int),wsPV l] (Q6w l x y z t):=by
 have h8:=(Qel hv).2;have h:=Zw9 l (mask (blW x y z t) l) (Ze7 _ h8) hv (Zq5 _ h8);rw [Go.Dg.bits_mask _ _ h8,Zqg]at h;exact h
end Go.Proofs.YtcaffiaempefjaaGreatDoor
